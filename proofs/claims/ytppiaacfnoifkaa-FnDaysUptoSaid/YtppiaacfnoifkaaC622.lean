/-
  Contracts, printed by a program.
-/
import Derived.Test.YtppiaacfnoifkaaC621
namespace Go.Proofs.Ytppiaacfnoifkaa
open Go.RowKit
attribute [local irreducible] Ob loopwp Sub Spec Fin Again CallW CutC KOb iter joinx outm

attribute [local irreducible] laws_rBig spec_l1Cur_next spec_l1Cur_pick spec_l1Cur_among spec_l1Cur_one spec_l1Cur_of spec_l1Cur_dayRow spec_l1Cur_dayRows spec_DrawBestDays impl_within impl_isDay impl_isWord

noncomputable def impl_IsDayRow (a0 : DayRow) : Option (Bool) :=
  ((impl_isDay a0.1).bind fun y1 => (cond (!y1) ((some false)) ((impl_within a0.2.1 (0 : Int) (99999 : Int)).bind fun y2 => (cond (!y2) ((some false)) ((impl_within a0.2.2.1 (0 : Int) (99999 : Int)).bind fun y3 => (cond (!y3) ((some false)) ((impl_within a0.2.2.2.1 (0 : Int) (24 : Int)).bind fun y4 => (cond (!y4) ((some false)) ((impl_within a0.2.2.2.2.1 (0 : Int) (99 : Int)).bind fun y5 => (cond (!y5) ((some false)) (joinx (cond (decide (a0.2.2.2.1 = (0 : Int))) (cond (decide ((0 : Int) < (w64 ((w64 (a0.2.1 + a0.2.2.1)) + a0.2.2.2.2.1)))) (outm ((some false))) ((some (.go ())))) ((some (.go ())))) (fun (_ : Unit) => (cond (decide (a0.2.2.2.2.1 = (0 : Int))) (cond (decide (a0.2.2.2.2.2.1 = (ByteArray.mk #[]))) ((some true)) (cond (decide ((0 : Int) < a0.2.2.2.2.1)) ((impl_isWord a0.2.2.2.2.2.1).bind fun y7 => (some y7)) ((some false)))) (cond (decide ((0 : Int) < a0.2.2.2.2.1)) ((impl_isWord a0.2.2.2.2.2.1).bind fun y8 => (some y8)) ((some false))))))))))))))))
def impl_IsDayRow.res (_ : DayRow) (y : Bool) : AV := (.bl y)
def impl_IsDayRow.out (_ : DayRow) (_ : Bool) : List (Option LB) := []
def impl_IsDayRow.S (ar : List AV) (h : List (Option LB)) (r : AV) (h1 : List (Option LB)) : Prop := ∃ a0 y, impl_IsDayRow a0 = some y ∧ leL ar [(.agg [(.v (.int .i64 a0.1)), (.v (.int .i64 a0.2.1)), (.v (.int .i64 a0.2.2.1)), (.v (.int .i64 a0.2.2.2.1)), (.v (.int .i64 a0.2.2.2.2.1)), (.v (.string a0.2.2.2.2.2.1))])] ∧ leH h [] ∧ r = impl_IsDayRow.res a0 y ∧ h1 = impl_IsDayRow.out a0 y
theorem impl_IsDayRow.call {ar : List AV} {h : List (Option LB)} {a0 : DayRow} {y : Bool} (H : impl_IsDayRow a0 = some y) (h0 : leLk ar [(.agg [(.v (.int .i64 a0.1)), (.v (.int .i64 a0.2.1)), (.v (.int .i64 a0.2.2.1)), (.v (.int .i64 a0.2.2.2.1)), (.v (.int .i64 a0.2.2.2.2.1)), (.v (.string a0.2.2.2.2.2.1))])] (leHk h [])) : impl_IsDayRow.S ar h (impl_IsDayRow.res a0 y) (impl_IsDayRow.out a0 y) := ⟨a0, y, H, (args_ok h0).1, (args_ok h0).2, rfl, rfl⟩
set_option maxHeartbeats 100000000 in
set_option maxRecDepth 100000 in
theorem impl_IsDayRow.spec (a0 : DayRow) (y : Bool) (H : impl_IsDayRow a0 = some y) : Spec Try.prog 39 [(.agg [(.v (.int .i64 a0.1)), (.v (.int .i64 a0.2.1)), (.v (.int .i64 a0.2.2.1)), (.v (.int .i64 a0.2.2.2.1)), (.v (.int .i64 a0.2.2.2.2.1)), (.v (.string a0.2.2.2.2.2.1))])] [] (impl_IsDayRow.res a0 y) (impl_IsDayRow.out a0 y) := by
  refine spec_intro (G12_ok.at tok []) (ct := [(5, none), (2, some [1, 30, 35, 36, 37, 38, 39, 40, 41, 42, 43, 49, 50, 51, 54, 55, 56, 57, 58, 59, 60, 61]), (4, some [1, 44, 49, 50, 51, 54, 55, 56, 57, 58, 59, 60, 61])]) Try.func39 rfl (by kernel_rfl) (by kernel_rfl) rfl ?_
  repeat' first
    | (with_reducible exact (outm_no H).elim)
    | ((replace H := out_step H (by assumption)); exact (outm_no H).elim)
    | ((with_reducible refine eqg ?_); exact rfl)
    | ((with_reducible refine KOb.mk ?_); kernel_rfl)
    | ((with_reducible intro h); (repeat (first | replace H := grd_k H | replace H := out_step H (by assumption) | replace H := outm_out H)); first | replace H := cond_t h H | replace H := cond_f h H | exact absurd h (by decide) | skip)
    | ((with_reducible refine Ob.mk ?_); first | (with_reducible rfl) | (first | ((repeat (first | (with_reducible exact grd_p H) | (replace H := grd_k H) | (replace H := out_step H (by assumption)) | replace H := outm_out H)); done) | rfl | ((repeat (first | exact grd_p H | replace H := grd_k H | replace H := out_step H (by assumption) | replace H := outm_out H)); done) | ((repeat (first | exact grd_p H | (have hp := grd_p H; exact hp) | replace H := grd_k H | replace H := out_step H (by assumption) | replace H := outm_out H | (replace H := bind_some H; obtain ⟨_, _, H⟩ := H))); done) | (repeat (first | exact grd_p H | replace H := grd_k H | replace H := out_step H (by assumption) | replace H := outm_out H))))
    | (with_reducible exact True.intro)
    | ((conv => whnf); first
        | (with_reducible refine And.intro ?_ ?_)
        | (with_reducible exact True.intro)
        | ((with_reducible refine Ob.mk ?_); first | (with_reducible rfl) | (first | ((repeat (first | (with_reducible exact grd_p H) | (replace H := grd_k H) | (replace H := out_step H (by assumption)) | replace H := outm_out H)); done) | rfl | ((repeat (first | exact grd_p H | replace H := grd_k H | replace H := out_step H (by assumption) | replace H := outm_out H)); done) | ((repeat (first | exact grd_p H | (have hp := grd_p H; exact hp) | replace H := grd_k H | replace H := out_step H (by assumption) | replace H := outm_out H | (replace H := bind_some H; obtain ⟨_, _, H⟩ := H))); done) | (repeat (first | exact grd_p H | replace H := grd_k H | replace H := out_step H (by assumption) | replace H := outm_out H))))
        | ((with_reducible refine CallW.mk ?_); (repeat (first | replace H := grd_k H | replace H := out_step H (by assumption) | replace H := outm_out H)); replace H := bind_some H; obtain ⟨y, hy, H⟩ := H; first | ((with_reducible have hz : impl_isDay _ = some y := hy); clear hz; refine Exists.intro _ (Exists.intro _ ⟨impl_isDay.call hy ?_, rfl, rfl, ?_⟩)) | ((with_reducible have hz : impl_within _ _ _ = some y := hy); clear hz; refine Exists.intro _ (Exists.intro _ ⟨impl_within.call hy ?_, rfl, rfl, ?_⟩)) | ((with_reducible have hz : impl_isWord _ = some y := hy); clear hz; refine Exists.intro _ (Exists.intro _ ⟨impl_isWord.call hy ?_, rfl, rfl, ?_⟩)))
        | ((with_reducible refine cutAt (id := 5) ?_); (repeat (first | replace H := grd_k H | replace H := out_step H (by assumption) | replace H := outm_out H)); first | (replace H := joinx_some H; rcases H with ⟨z, hz, H⟩ | H; rotate_left; (with_reducible refine CutC.no ?_); rotate_right; (refine CutC.mk (id := 5) ⟨sl [(1, (.loc 0 0 0))], [some (.box 33 [(.v (.int .i64 a0.1)), (.v (.int .i64 a0.2.1)), (.v (.int .i64 a0.2.2.1)), (.v (.int .i64 a0.2.2.2.1)), (.v (.int .i64 a0.2.2.2.2.1)), (.v (.string a0.2.2.2.2.2.1))])]⟩ ?_ ?_; (replace H := hz))))
        | ((repeat (first | replace H := grd_k H | replace H := out_step H (by assumption) | replace H := outm_out H)); have H := Option.some.inj H; subst H; with_reducible refine sub_auto ?_)
        | ((repeat (first | replace H := grd_k H | replace H := out_step H (by assumption) | replace H := outm_out H)); have H := go_inj H; subst H; with_reducible refine sub_auto ?_)
        | ((repeat (first | replace H := grd_k H | replace H := out_step H (by assumption) | replace H := outm_out H)); exact (go_out H).elim)
        | ((with_reducible refine fin_mk ?_); (repeat (first | replace H := grd_k H | replace H := out_step H (by assumption) | replace H := outm_out H)); have H := Option.some.inj H; subst H))
    | constructor
def G13 : Env := G12.add 39 [] impl_IsDayRow.S
theorem G13_ok : EnvOk Try.prog G13 := G12_ok.add ent_39 fun ar h r h1 ⟨a0, y, hy, e1, e2, e3, e4⟩ => by
  subst e3 e4; exact (impl_IsDayRow.spec a0 y hy).le e1 e2
attribute [local irreducible] impl_IsDayRow

noncomputable def impl_AreDayRows_loop1 (a0 : (List DayRow)) (v5 : Int) : Option (Lp (Int) ((Unit) ⊕ (Unit))) :=
  (cond (decide (v5 < (a0.length : Int))) (grd (0 ≤ v5 ∧ v5 < (a0.length : Int)) ((impl_IsDayRow ((a0.getD v5.toNat d_DayRow).1, (a0.getD v5.toNat d_DayRow).2.1, (a0.getD v5.toNat d_DayRow).2.2.1, (a0.getD v5.toNat d_DayRow).2.2.2.1, (a0.getD v5.toNat d_DayRow).2.2.2.2.1, (a0.getD v5.toNat d_DayRow).2.2.2.2.2.1, ())).bind fun y6 => (cond (!y6) ((some (.out (Sum.inl ())))) (cond (decide ((0 : Int) < v5)) (grd (0 ≤ (w64 (v5 - (1 : Int))) ∧ (w64 (v5 - (1 : Int))) < (a0.length : Int)) (cond (decide (((a0.getD v5.toNat d_DayRow).1) ≤ ((a0.getD ((w64 (v5 - (1 : Int))).toNat) d_DayRow).1))) ((some (.out (Sum.inl ())))) (some (.go (w64 (v5 + (1 : Int))))))) (some (.go (w64 (v5 + (1 : Int))))))))) ((some (.out (Sum.inr ())))))
noncomputable def impl_AreDayRows (a0 : (List DayRow)) : Option (Bool) :=
  ((iter (fun s => impl_AreDayRows_loop1 a0 s) (0 : Int)).bind (Sum.elim (fun _ => (some false)) (fun _ => (some (decide ((a0.length : Int) ≤ (14 : Int)))))))
def impl_AreDayRows.res (_ : (List DayRow)) (y : Bool) : AV := (.bl y)
def impl_AreDayRows.out (_ : (List DayRow)) (_ : Bool) : List (Option LB) := []
def impl_AreDayRows.S (ar : List AV) (h : List (Option LB)) (r : AV) (h1 : List (Option LB)) : Prop := ∃ a0 y, impl_AreDayRows a0 = some y ∧ leL ar [(.tree ty_DayRow a0)] ∧ leH h [] ∧ r = impl_AreDayRows.res a0 y ∧ h1 = impl_AreDayRows.out a0 y
theorem impl_AreDayRows.call {ar : List AV} {h : List (Option LB)} {a0 : (List DayRow)} {y : Bool} (H : impl_AreDayRows a0 = some y) (h0 : leLk ar [(.tree ty_DayRow a0)] (leHk h [])) : impl_AreDayRows.S ar h (impl_AreDayRows.res a0 y) (impl_AreDayRows.out a0 y) := ⟨a0, y, H, (args_ok h0).1, (args_ok h0).2, rfl, rfl⟩
set_option maxHeartbeats 100000000 in
set_option maxRecDepth 100000 in
theorem impl_AreDayRows.spec (a0 : (List DayRow)) (y : Bool) (H : impl_AreDayRows a0 = some y) : Spec Try.prog 22 [(.tree ty_DayRow a0)] [] (impl_AreDayRows.res a0 y) (impl_AreDayRows.out a0 y) := by
  refine spec_intro (G13_ok.at tok []) (ct := [(5, some [0, 5, 6, 7, 16, 17, 18, 19, 20, 21, 22, 23, 24, 25, 26, 27, 28, 29])]) Try.func22 rfl (by kernel_rfl) (by kernel_rfl) rfl ?_
  repeat' first
    | ((with_reducible refine eqg ?_); exact rfl)
    | ((with_reducible refine KOb.mk ?_); kernel_rfl)
    | ((with_reducible intro h); (repeat (first | replace H := grd_k H | replace H := out_step H (by assumption))); first | replace H := cond_t h H | replace H := cond_f h H | exact absurd h (by decide) | skip)
    | ((with_reducible refine Ob.mk ?_); first | (with_reducible rfl) | (first | ((repeat (first | (with_reducible exact grd_p H) | (replace H := grd_k H) | (replace H := out_step H (by assumption)))); done) | rfl | ((repeat (first | exact grd_p H | replace H := grd_k H | replace H := out_step H (by assumption))); done) | ((repeat (first | exact grd_p H | (have hp := grd_p H; exact hp) | replace H := grd_k H | replace H := out_step H (by assumption) | (replace H := bind_some H; obtain ⟨_, _, H⟩ := H))); done) | (repeat (first | exact grd_p H | replace H := grd_k H | replace H := out_step H (by assumption)))))
    | (with_reducible exact True.intro)
    | ((conv => whnf); first
        | (with_reducible refine And.intro ?_ ?_)
        | (with_reducible exact True.intro)
        | ((with_reducible refine Ob.mk ?_); first | (with_reducible rfl) | (first | ((repeat (first | (with_reducible exact grd_p H) | (replace H := grd_k H) | (replace H := out_step H (by assumption)))); done) | rfl | ((repeat (first | exact grd_p H | replace H := grd_k H | replace H := out_step H (by assumption))); done) | ((repeat (first | exact grd_p H | (have hp := grd_p H; exact hp) | replace H := grd_k H | replace H := out_step H (by assumption) | (replace H := bind_some H; obtain ⟨_, _, H⟩ := H))); done) | (repeat (first | exact grd_p H | replace H := grd_k H | replace H := out_step H (by assumption)))))
        | ((with_reducible refine CallW.mk ?_); (repeat (first | replace H := grd_k H | replace H := out_step H (by assumption))); replace H := bind_some H; obtain ⟨y, hy, H⟩ := H; first | ((with_reducible have hz : impl_IsDayRow _ = some y := hy); clear hz; refine Exists.intro _ (Exists.intro _ ⟨impl_IsDayRow.call hy ?_, rfl, rfl, ?_⟩)))
        | ((repeat (first | replace H := grd_k H | replace H := out_step H (by assumption))); refine loop_iter (G13_ok.at tok []) (ct := [(5, some [0, 5, 6, 7, 16, 17, 18, 19, 20, 21, 22, 23, 24, 25, 26, 27, 28, 29])]) (F := (fun s1 : Int => ⟨sl [(0, (.tree ty_DayRow a0)), (5, (.tree ty_DayRow a0)), (6, (.v (.int .i64 (a0.length : Int)))), (7, (.v (.int .i64 s1)))], []⟩)) (step := (fun s : Int => impl_AreDayRows_loop1 _ s)) _ H (by kernel_rfl) (sub_auto ?_) ?_; rotate_left; (intro s1 r v hr H); rotate_right)
        | ((repeat (first | replace H := grd_k H | replace H := out_step H (by assumption))); refine again_step H (by assumption) (sub_auto ?_))
        | ((with_reducible refine fin_mk ?_); (repeat (first | replace H := grd_k H | replace H := out_step H (by assumption))); have H := Option.some.inj H; subst H))
    | constructor
def G14 : Env := G13.add 22 [] impl_AreDayRows.S
theorem G14_ok : EnvOk Try.prog G14 := G13_ok.add ent_22 fun ar h r h1 ⟨a0, y, hy, e1, e2, e3, e4⟩ => by
  subst e3 e4; exact (impl_AreDayRows.spec a0 y hy).le e1 e2
attribute [local irreducible] impl_AreDayRows

noncomputable def slices_Clone___impl_DayRow_impl_DayRow_ (a0 : (List DayRow)) : Option ((List DayRow) × (List DayRow)) :=
  (grd (([] : List DayRow).length + a0.length ≤ 140737488355328 / 56 ∧ ([] : List DayRow).length + a0.length ≤ 140737488355328) ((some ((([] : List DayRow) ++ a0), a0))))
def slices_Clone___impl_DayRow_impl_DayRow_.res (_ : (List DayRow)) (_ : (List DayRow) × (List DayRow)) : AV := (.own 1)
def slices_Clone___impl_DayRow_impl_DayRow_.out (_ : (List DayRow)) (y : (List DayRow) × (List DayRow)) : List (Option LB) := [some (.arr 33 ty_DayRow y.2), some (.arr 33 ty_DayRow y.1)]
def slices_Clone___impl_DayRow_impl_DayRow_.S (ar : List AV) (h : List (Option LB)) (r : AV) (h1 : List (Option LB)) : Prop := ∃ a0 y, slices_Clone___impl_DayRow_impl_DayRow_ a0 = some y ∧ leL ar [(.own 0)] ∧ leH h [some (.arr 33 ty_DayRow a0)] ∧ r = slices_Clone___impl_DayRow_impl_DayRow_.res a0 y ∧ h1 = slices_Clone___impl_DayRow_impl_DayRow_.out a0 y
theorem slices_Clone___impl_DayRow_impl_DayRow_.call {ar : List AV} {h : List (Option LB)} {a0 : (List DayRow)} {y : (List DayRow) × (List DayRow)} (H : slices_Clone___impl_DayRow_impl_DayRow_ a0 = some y) (h0 : leLk ar [(.own 0)] (leHk h [some (.arr 33 ty_DayRow a0)])) : slices_Clone___impl_DayRow_impl_DayRow_.S ar h (slices_Clone___impl_DayRow_impl_DayRow_.res a0 y) (slices_Clone___impl_DayRow_impl_DayRow_.out a0 y) := ⟨a0, y, H, (args_ok h0).1, (args_ok h0).2, rfl, rfl⟩
set_option maxHeartbeats 100000000 in
set_option maxRecDepth 100000 in
theorem slices_Clone___impl_DayRow_impl_DayRow_.spec (a0 : (List DayRow)) (y : (List DayRow) × (List DayRow)) (H : slices_Clone___impl_DayRow_impl_DayRow_ a0 = some y) : Spec Try.prog 25 [(.own 0)] [some (.arr 33 ty_DayRow a0)] (slices_Clone___impl_DayRow_impl_DayRow_.res a0 y) (slices_Clone___impl_DayRow_impl_DayRow_.out a0 y) := by
  refine spec_intro (G14_ok.at tok []) (ct := []) Try.func25 rfl (by kernel_rfl) (by kernel_rfl) rfl ?_
  repeat' first
    | ((with_reducible refine eqg ?_); exact rfl)
    | ((with_reducible refine KOb.mk ?_); kernel_rfl)
    | ((with_reducible intro h); (repeat (first | replace H := grd_k H | replace H := out_step H (by assumption))); first | replace H := cond_t h H | replace H := cond_f h H | exact absurd h (by decide) | skip)
    | ((with_reducible refine Ob.mk ?_); first | (with_reducible rfl) | (first | ((repeat (first | (with_reducible exact grd_p H) | (replace H := grd_k H) | (replace H := out_step H (by assumption)))); done) | rfl | ((repeat (first | exact grd_p H | replace H := grd_k H | replace H := out_step H (by assumption))); done) | ((repeat (first | exact grd_p H | (have hp := grd_p H; exact hp) | replace H := grd_k H | replace H := out_step H (by assumption) | (replace H := bind_some H; obtain ⟨_, _, H⟩ := H))); done) | (repeat (first | exact grd_p H | replace H := grd_k H | replace H := out_step H (by assumption)))))
    | (with_reducible exact True.intro)
    | ((conv => whnf); first
        | (with_reducible refine And.intro ?_ ?_)
        | (with_reducible exact True.intro)
        | ((with_reducible refine Ob.mk ?_); first | (with_reducible rfl) | (first | ((repeat (first | (with_reducible exact grd_p H) | (replace H := grd_k H) | (replace H := out_step H (by assumption)))); done) | rfl | ((repeat (first | exact grd_p H | replace H := grd_k H | replace H := out_step H (by assumption))); done) | ((repeat (first | exact grd_p H | (have hp := grd_p H; exact hp) | replace H := grd_k H | replace H := out_step H (by assumption) | (replace H := bind_some H; obtain ⟨_, _, H⟩ := H))); done) | (repeat (first | exact grd_p H | replace H := grd_k H | replace H := out_step H (by assumption)))))
        | ((with_reducible refine fin_mk ?_); (repeat (first | replace H := grd_k H | replace H := out_step H (by assumption))); have H := Option.some.inj H; subst H))
    | constructor
  all_goals exact viewz _ _
def G15 : Env := G14.add 25 [true] slices_Clone___impl_DayRow_impl_DayRow_.S
theorem G15_ok : EnvOk Try.prog G15 := G14_ok.add ent_25 fun ar h r h1 ⟨a0, y, hy, e1, e2, e3, e4⟩ => by
  subst e3 e4; exact (slices_Clone___impl_DayRow_impl_DayRow_.spec a0 y hy).le e1 e2
attribute [local irreducible] slices_Clone___impl_DayRow_impl_DayRow_

noncomputable def impl_BestDays_1 (a0 : DayRow) : Option (Bool) :=
  (some (decide (a0.2.2.2.1 = (0 : Int))))
def impl_BestDays_1.res (_ : DayRow) (y : Bool) : AV := (.bl y)
def impl_BestDays_1.out (_ : DayRow) (_ : Bool) : List (Option LB) := []
def impl_BestDays_1.S (ar : List AV) (h : List (Option LB)) (r : AV) (h1 : List (Option LB)) : Prop := ∃ a0 y, impl_BestDays_1 a0 = some y ∧ leL ar [(.agg [(.v (.int .i64 a0.1)), (.v (.int .i64 a0.2.1)), (.v (.int .i64 a0.2.2.1)), (.v (.int .i64 a0.2.2.2.1)), (.v (.int .i64 a0.2.2.2.2.1)), (.v (.string a0.2.2.2.2.2.1))])] ∧ leH h [] ∧ r = impl_BestDays_1.res a0 y ∧ h1 = impl_BestDays_1.out a0 y
theorem impl_BestDays_1.call {ar : List AV} {h : List (Option LB)} {a0 : DayRow} {y : Bool} (H : impl_BestDays_1 a0 = some y) (h0 : leLk ar [(.agg [(.v (.int .i64 a0.1)), (.v (.int .i64 a0.2.1)), (.v (.int .i64 a0.2.2.1)), (.v (.int .i64 a0.2.2.2.1)), (.v (.int .i64 a0.2.2.2.2.1)), (.v (.string a0.2.2.2.2.2.1))])] (leHk h [])) : impl_BestDays_1.S ar h (impl_BestDays_1.res a0 y) (impl_BestDays_1.out a0 y) := ⟨a0, y, H, (args_ok h0).1, (args_ok h0).2, rfl, rfl⟩
set_option maxHeartbeats 100000000 in
set_option maxRecDepth 100000 in
theorem impl_BestDays_1.spec (a0 : DayRow) (y : Bool) (H : impl_BestDays_1 a0 = some y) : Spec Try.prog 26 [(.agg [(.v (.int .i64 a0.1)), (.v (.int .i64 a0.2.1)), (.v (.int .i64 a0.2.2.1)), (.v (.int .i64 a0.2.2.2.1)), (.v (.int .i64 a0.2.2.2.2.1)), (.v (.string a0.2.2.2.2.2.1))])] [] (impl_BestDays_1.res a0 y) (impl_BestDays_1.out a0 y) := by
  refine spec_intro (G15_ok.at tok []) (ct := []) Try.func26 rfl (by kernel_rfl) (by kernel_rfl) rfl ?_
  repeat' first
    | ((with_reducible refine eqg ?_); exact rfl)
    | ((with_reducible refine KOb.mk ?_); kernel_rfl)
    | ((with_reducible intro h); (repeat (first | replace H := grd_k H | replace H := out_step H (by assumption))); first | replace H := cond_t h H | replace H := cond_f h H | exact absurd h (by decide) | skip)
    | ((with_reducible refine Ob.mk ?_); first | (with_reducible rfl) | (first | ((repeat (first | (with_reducible exact grd_p H) | (replace H := grd_k H) | (replace H := out_step H (by assumption)))); done) | rfl | ((repeat (first | exact grd_p H | replace H := grd_k H | replace H := out_step H (by assumption))); done) | ((repeat (first | exact grd_p H | (have hp := grd_p H; exact hp) | replace H := grd_k H | replace H := out_step H (by assumption) | (replace H := bind_some H; obtain ⟨_, _, H⟩ := H))); done) | (repeat (first | exact grd_p H | replace H := grd_k H | replace H := out_step H (by assumption)))))
    | (with_reducible exact True.intro)
    | ((conv => whnf); first
        | (with_reducible refine And.intro ?_ ?_)
        | (with_reducible exact True.intro)
        | ((with_reducible refine Ob.mk ?_); first | (with_reducible rfl) | (first | ((repeat (first | (with_reducible exact grd_p H) | (replace H := grd_k H) | (replace H := out_step H (by assumption)))); done) | rfl | ((repeat (first | exact grd_p H | replace H := grd_k H | replace H := out_step H (by assumption))); done) | ((repeat (first | exact grd_p H | (have hp := grd_p H; exact hp) | replace H := grd_k H | replace H := out_step H (by assumption) | (replace H := bind_some H; obtain ⟨_, _, H⟩ := H))); done) | (repeat (first | exact grd_p H | replace H := grd_k H | replace H := out_step H (by assumption)))))
        | ((with_reducible refine fin_mk ?_); (repeat (first | replace H := grd_k H | replace H := out_step H (by assumption))); have H := Option.some.inj H; subst H))
    | constructor
def G16 : Env := G15.add 26 [] impl_BestDays_1.S
theorem G16_ok : EnvOk Try.prog G16 := G15_ok.add ent_26 fun ar h r h1 ⟨a0, y, hy, e1, e2, e3, e4⟩ => by
  subst e3 e4; exact (impl_BestDays_1.spec a0 y hy).le e1 e2
attribute [local irreducible] impl_BestDays_1

noncomputable def cmp_isNaN_int_ (a0 : Int) : Option (Bool) :=
  (some (!decide (a0 = a0)))
def cmp_isNaN_int_.res (_ : Int) (y : Bool) : AV := (.bl y)
def cmp_isNaN_int_.out (_ : Int) (_ : Bool) : List (Option LB) := []
def cmp_isNaN_int_.S (ar : List AV) (h : List (Option LB)) (r : AV) (h1 : List (Option LB)) : Prop := ∃ a0 y, cmp_isNaN_int_ a0 = some y ∧ leL ar [(.v (.int .i64 a0))] ∧ leH h [] ∧ r = cmp_isNaN_int_.res a0 y ∧ h1 = cmp_isNaN_int_.out a0 y
theorem cmp_isNaN_int_.call {ar : List AV} {h : List (Option LB)} {a0 : Int} {y : Bool} (H : cmp_isNaN_int_ a0 = some y) (h0 : leLk ar [(.v (.int .i64 a0))] (leHk h [])) : cmp_isNaN_int_.S ar h (cmp_isNaN_int_.res a0 y) (cmp_isNaN_int_.out a0 y) := ⟨a0, y, H, (args_ok h0).1, (args_ok h0).2, rfl, rfl⟩
set_option maxHeartbeats 100000000 in
set_option maxRecDepth 100000 in
theorem cmp_isNaN_int_.spec (a0 : Int) (y : Bool) (H : cmp_isNaN_int_ a0 = some y) : Spec Try.prog 42 [(.v (.int .i64 a0))] [] (cmp_isNaN_int_.res a0 y) (cmp_isNaN_int_.out a0 y) := by
  refine spec_intro (G16_ok.at tok []) (ct := []) Try.func42 rfl (by kernel_rfl) (by kernel_rfl) rfl ?_
  repeat' first
    | ((with_reducible refine eqg ?_); exact rfl)
    | ((with_reducible refine KOb.mk ?_); kernel_rfl)
    | ((with_reducible intro h); (repeat (first | replace H := grd_k H | replace H := out_step H (by assumption))); first | replace H := cond_t h H | replace H := cond_f h H | exact absurd h (by decide) | skip)
    | ((with_reducible refine Ob.mk ?_); first | (with_reducible rfl) | (first | ((repeat (first | (with_reducible exact grd_p H) | (replace H := grd_k H) | (replace H := out_step H (by assumption)))); done) | rfl | ((repeat (first | exact grd_p H | replace H := grd_k H | replace H := out_step H (by assumption))); done) | ((repeat (first | exact grd_p H | (have hp := grd_p H; exact hp) | replace H := grd_k H | replace H := out_step H (by assumption) | (replace H := bind_some H; obtain ⟨_, _, H⟩ := H))); done) | (repeat (first | exact grd_p H | replace H := grd_k H | replace H := out_step H (by assumption)))))
    | (with_reducible exact True.intro)
    | ((conv => whnf); first
        | (with_reducible refine And.intro ?_ ?_)
        | (with_reducible exact True.intro)
        | ((with_reducible refine Ob.mk ?_); first | (with_reducible rfl) | (first | ((repeat (first | (with_reducible exact grd_p H) | (replace H := grd_k H) | (replace H := out_step H (by assumption)))); done) | rfl | ((repeat (first | exact grd_p H | replace H := grd_k H | replace H := out_step H (by assumption))); done) | ((repeat (first | exact grd_p H | (have hp := grd_p H; exact hp) | replace H := grd_k H | replace H := out_step H (by assumption) | (replace H := bind_some H; obtain ⟨_, _, H⟩ := H))); done) | (repeat (first | exact grd_p H | replace H := grd_k H | replace H := out_step H (by assumption)))))
        | ((with_reducible refine fin_mk ?_); (repeat (first | replace H := grd_k H | replace H := out_step H (by assumption))); have H := Option.some.inj H; subst H))
    | constructor
def G17 : Env := G16.add 42 [] cmp_isNaN_int_.S
theorem G17_ok : EnvOk Try.prog G17 := G16_ok.add ent_42 fun ar h r h1 ⟨a0, y, hy, e1, e2, e3, e4⟩ => by
  subst e3 e4; exact (cmp_isNaN_int_.spec a0 y hy).le e1 e2
attribute [local irreducible] cmp_isNaN_int_

noncomputable def cmp_Compare_int_ (a0 : Int) (a1 : Int) : Option (Int) :=
  ((cmp_isNaN_int_ a0).bind fun y1 => ((cmp_isNaN_int_ a1).bind fun y2 => (cond y1 (cond y2 ((some (0 : Int))) ((some ((-1) : Int)))) (cond y2 ((some (1 : Int))) (cond (decide (a0 < a1)) ((some ((-1) : Int))) (cond (decide (a1 < a0)) ((some (1 : Int))) ((some (0 : Int)))))))))
def cmp_Compare_int_.res (_ : Int) (_ : Int) (y : Int) : AV := (.v (.int .i64 y))
def cmp_Compare_int_.out (_ : Int) (_ : Int) (_ : Int) : List (Option LB) := []
def cmp_Compare_int_.S (ar : List AV) (h : List (Option LB)) (r : AV) (h1 : List (Option LB)) : Prop := ∃ a0 a1 y, cmp_Compare_int_ a0 a1 = some y ∧ leL ar [(.v (.int .i64 a0)), (.v (.int .i64 a1))] ∧ leH h [] ∧ r = cmp_Compare_int_.res a0 a1 y ∧ h1 = cmp_Compare_int_.out a0 a1 y
theorem cmp_Compare_int_.call {ar : List AV} {h : List (Option LB)} {a0 : Int} {a1 : Int} {y : Int} (H : cmp_Compare_int_ a0 a1 = some y) (h0 : leLk ar [(.v (.int .i64 a0)), (.v (.int .i64 a1))] (leHk h [])) : cmp_Compare_int_.S ar h (cmp_Compare_int_.res a0 a1 y) (cmp_Compare_int_.out a0 a1 y) := ⟨a0, a1, y, H, (args_ok h0).1, (args_ok h0).2, rfl, rfl⟩
set_option maxHeartbeats 100000000 in
set_option maxRecDepth 100000 in
theorem cmp_Compare_int_.spec (a0 : Int) (a1 : Int) (y : Int) (H : cmp_Compare_int_ a0 a1 = some y) : Spec Try.prog 29 [(.v (.int .i64 a0)), (.v (.int .i64 a1))] [] (cmp_Compare_int_.res a0 a1 y) (cmp_Compare_int_.out a0 a1 y) := by
  refine spec_intro (G17_ok.at tok []) (ct := [(10, some [0, 1, 16])]) Try.func29 rfl (by kernel_rfl) (by kernel_rfl) rfl ?_
  repeat' first
    | ((with_reducible refine eqg ?_); exact rfl)
    | ((with_reducible refine KOb.mk ?_); kernel_rfl)
    | ((with_reducible intro h); (repeat (first | replace H := grd_k H | replace H := out_step H (by assumption))); first | replace H := cond_t h H | replace H := cond_f h H | exact absurd h (by decide) | skip)
    | ((with_reducible refine Ob.mk ?_); first | (with_reducible rfl) | (first | ((repeat (first | (with_reducible exact grd_p H) | (replace H := grd_k H) | (replace H := out_step H (by assumption)))); done) | rfl | ((repeat (first | exact grd_p H | replace H := grd_k H | replace H := out_step H (by assumption))); done) | ((repeat (first | exact grd_p H | (have hp := grd_p H; exact hp) | replace H := grd_k H | replace H := out_step H (by assumption) | (replace H := bind_some H; obtain ⟨_, _, H⟩ := H))); done) | (repeat (first | exact grd_p H | replace H := grd_k H | replace H := out_step H (by assumption)))))
    | (with_reducible exact True.intro)
    | ((conv => whnf); first
        | (with_reducible refine And.intro ?_ ?_)
        | (with_reducible exact True.intro)
        | ((with_reducible refine Ob.mk ?_); first | (with_reducible rfl) | (first | ((repeat (first | (with_reducible exact grd_p H) | (replace H := grd_k H) | (replace H := out_step H (by assumption)))); done) | rfl | ((repeat (first | exact grd_p H | replace H := grd_k H | replace H := out_step H (by assumption))); done) | ((repeat (first | exact grd_p H | (have hp := grd_p H; exact hp) | replace H := grd_k H | replace H := out_step H (by assumption) | (replace H := bind_some H; obtain ⟨_, _, H⟩ := H))); done) | (repeat (first | exact grd_p H | replace H := grd_k H | replace H := out_step H (by assumption)))))
        | ((with_reducible refine CallW.mk ?_); (repeat (first | replace H := grd_k H | replace H := out_step H (by assumption))); replace H := bind_some H; obtain ⟨y, hy, H⟩ := H; first | ((with_reducible have hz : cmp_isNaN_int_ _ = some y := hy); clear hz; refine Exists.intro _ (Exists.intro _ ⟨cmp_isNaN_int_.call hy ?_, rfl, rfl, ?_⟩)))
        | ((with_reducible refine fin_mk ?_); (repeat (first | replace H := grd_k H | replace H := out_step H (by assumption))); have H := Option.some.inj H; subst H))
    | constructor
def G18 : Env := G17.add 29 [] cmp_Compare_int_.S
theorem G18_ok : EnvOk Try.prog G18 := G17_ok.add ent_29 fun ar h r h1 ⟨a0, a1, y, hy, e1, e2, e3, e4⟩ => by
  subst e3 e4; exact (cmp_Compare_int_.spec a0 a1 y hy).le e1 e2
attribute [local irreducible] cmp_Compare_int_

noncomputable def impl_BestDays_2 (a0 : DayRow) (a1 : DayRow) : Option (Int) :=
  ((cmp_Compare_int_ a1.2.1 a0.2.1).bind fun y1 => (some y1))
def impl_BestDays_2.res (_ : DayRow) (_ : DayRow) (y : Int) : AV := (.v (.int .i64 y))
def impl_BestDays_2.out (_ : DayRow) (_ : DayRow) (_ : Int) : List (Option LB) := []
def impl_BestDays_2.S (ar : List AV) (h : List (Option LB)) (r : AV) (h1 : List (Option LB)) : Prop := ∃ a0 a1 y, impl_BestDays_2 a0 a1 = some y ∧ leL ar [(.agg [(.v (.int .i64 a0.1)), (.v (.int .i64 a0.2.1)), (.v (.int .i64 a0.2.2.1)), (.v (.int .i64 a0.2.2.2.1)), (.v (.int .i64 a0.2.2.2.2.1)), (.v (.string a0.2.2.2.2.2.1))]), (.agg [(.v (.int .i64 a1.1)), (.v (.int .i64 a1.2.1)), (.v (.int .i64 a1.2.2.1)), (.v (.int .i64 a1.2.2.2.1)), (.v (.int .i64 a1.2.2.2.2.1)), (.v (.string a1.2.2.2.2.2.1))])] ∧ leH h [] ∧ r = impl_BestDays_2.res a0 a1 y ∧ h1 = impl_BestDays_2.out a0 a1 y
theorem impl_BestDays_2.call {ar : List AV} {h : List (Option LB)} {a0 : DayRow} {a1 : DayRow} {y : Int} (H : impl_BestDays_2 a0 a1 = some y) (h0 : leLk ar [(.agg [(.v (.int .i64 a0.1)), (.v (.int .i64 a0.2.1)), (.v (.int .i64 a0.2.2.1)), (.v (.int .i64 a0.2.2.2.1)), (.v (.int .i64 a0.2.2.2.2.1)), (.v (.string a0.2.2.2.2.2.1))]), (.agg [(.v (.int .i64 a1.1)), (.v (.int .i64 a1.2.1)), (.v (.int .i64 a1.2.2.1)), (.v (.int .i64 a1.2.2.2.1)), (.v (.int .i64 a1.2.2.2.2.1)), (.v (.string a1.2.2.2.2.2.1))])] (leHk h [])) : impl_BestDays_2.S ar h (impl_BestDays_2.res a0 a1 y) (impl_BestDays_2.out a0 a1 y) := ⟨a0, a1, y, H, (args_ok h0).1, (args_ok h0).2, rfl, rfl⟩
set_option maxHeartbeats 100000000 in
set_option maxRecDepth 100000 in
theorem impl_BestDays_2.spec (a0 : DayRow) (a1 : DayRow) (y : Int) (H : impl_BestDays_2 a0 a1 = some y) : Spec Try.prog 28 [(.agg [(.v (.int .i64 a0.1)), (.v (.int .i64 a0.2.1)), (.v (.int .i64 a0.2.2.1)), (.v (.int .i64 a0.2.2.2.1)), (.v (.int .i64 a0.2.2.2.2.1)), (.v (.string a0.2.2.2.2.2.1))]), (.agg [(.v (.int .i64 a1.1)), (.v (.int .i64 a1.2.1)), (.v (.int .i64 a1.2.2.1)), (.v (.int .i64 a1.2.2.2.1)), (.v (.int .i64 a1.2.2.2.2.1)), (.v (.string a1.2.2.2.2.2.1))])] [] (impl_BestDays_2.res a0 a1 y) (impl_BestDays_2.out a0 a1 y) := by
  refine spec_intro (G18_ok.at tok []) (ct := []) Try.func28 rfl (by kernel_rfl) (by kernel_rfl) rfl ?_
  repeat' first
    | ((with_reducible refine eqg ?_); exact rfl)
    | ((with_reducible refine KOb.mk ?_); kernel_rfl)
    | ((with_reducible intro h); (repeat (first | replace H := grd_k H | replace H := out_step H (by assumption))); first | replace H := cond_t h H | replace H := cond_f h H | exact absurd h (by decide) | skip)
    | ((with_reducible refine Ob.mk ?_); first | (with_reducible rfl) | (first | ((repeat (first | (with_reducible exact grd_p H) | (replace H := grd_k H) | (replace H := out_step H (by assumption)))); done) | rfl | ((repeat (first | exact grd_p H | replace H := grd_k H | replace H := out_step H (by assumption))); done) | ((repeat (first | exact grd_p H | (have hp := grd_p H; exact hp) | replace H := grd_k H | replace H := out_step H (by assumption) | (replace H := bind_some H; obtain ⟨_, _, H⟩ := H))); done) | (repeat (first | exact grd_p H | replace H := grd_k H | replace H := out_step H (by assumption)))))
    | (with_reducible exact True.intro)
    | ((conv => whnf); first
        | (with_reducible refine And.intro ?_ ?_)
        | (with_reducible exact True.intro)
        | ((with_reducible refine Ob.mk ?_); first | (with_reducible rfl) | (first | ((repeat (first | (with_reducible exact grd_p H) | (replace H := grd_k H) | (replace H := out_step H (by assumption)))); done) | rfl | ((repeat (first | exact grd_p H | replace H := grd_k H | replace H := out_step H (by assumption))); done) | ((repeat (first | exact grd_p H | (have hp := grd_p H; exact hp) | replace H := grd_k H | replace H := out_step H (by assumption) | (replace H := bind_some H; obtain ⟨_, _, H⟩ := H))); done) | (repeat (first | exact grd_p H | replace H := grd_k H | replace H := out_step H (by assumption)))))
        | ((with_reducible refine CallW.mk ?_); (repeat (first | replace H := grd_k H | replace H := out_step H (by assumption))); replace H := bind_some H; obtain ⟨y, hy, H⟩ := H; first | ((with_reducible have hz : cmp_Compare_int_ _ _ = some y := hy); clear hz; refine Exists.intro _ (Exists.intro _ ⟨cmp_Compare_int_.call hy ?_, rfl, rfl, ?_⟩)))
        | ((with_reducible refine fin_mk ?_); (repeat (first | replace H := grd_k H | replace H := out_step H (by assumption))); have H := Option.some.inj H; subst H))
    | constructor
def G19 : Env := G18.add 28 [] impl_BestDays_2.S
theorem G19_ok : EnvOk Try.prog G19 := G18_ok.add ent_28 fun ar h r h1 ⟨a0, a1, y, hy, e1, e2, e3, e4⟩ => by
  subst e3 e4; exact (impl_BestDays_2.spec a0 a1 y hy).le e1 e2
attribute [local irreducible] impl_BestDays_2

noncomputable def slices_IndexFunc___impl_DayRow_impl_DayRow__i1_loop1 (a0 : (List DayRow)) (v4 : Int) : Option (Lp (Int) ((Int) ⊕ (Unit))) :=
  (cond (decide (v4 < (a0.length : Int))) (grd (0 ≤ v4 ∧ v4 < (a0.length : Int)) ((impl_BestDays_1 ((a0.getD v4.toNat d_DayRow).1, (a0.getD v4.toNat d_DayRow).2.1, (a0.getD v4.toNat d_DayRow).2.2.1, (a0.getD v4.toNat d_DayRow).2.2.2.1, (a0.getD v4.toNat d_DayRow).2.2.2.2.1, (a0.getD v4.toNat d_DayRow).2.2.2.2.2.1, ())).bind fun y5 => (cond y5 ((some (.out (Sum.inl v4)))) (some (.go (w64 (v4 + (1 : Int)))))))) ((some (.out (Sum.inr ())))))
noncomputable def slices_IndexFunc___impl_DayRow_impl_DayRow__i1 (a0 : (List DayRow)) : Option (Int) :=
  ((iter (fun s => slices_IndexFunc___impl_DayRow_impl_DayRow__i1_loop1 a0 s) (0 : Int)).bind (Sum.elim (fun r7 => (some r7)) (fun _ => (some ((-1) : Int)))))
def slices_IndexFunc___impl_DayRow_impl_DayRow__i1.res (_ : (List DayRow)) (y : Int) : AV := (.v (.int .i64 y))
def slices_IndexFunc___impl_DayRow_impl_DayRow__i1.out (_ : (List DayRow)) (_ : Int) : List (Option LB) := []
def slices_IndexFunc___impl_DayRow_impl_DayRow__i1.S (ar : List AV) (h : List (Option LB)) (r : AV) (h1 : List (Option LB)) : Prop := ∃ a0 y, slices_IndexFunc___impl_DayRow_impl_DayRow__i1 a0 = some y ∧ leL ar [(.tree ty_DayRow a0), (.fn 26 [])] ∧ leH h [] ∧ r = slices_IndexFunc___impl_DayRow_impl_DayRow__i1.res a0 y ∧ h1 = slices_IndexFunc___impl_DayRow_impl_DayRow__i1.out a0 y
theorem slices_IndexFunc___impl_DayRow_impl_DayRow__i1.call {ar : List AV} {h : List (Option LB)} {a0 : (List DayRow)} {y : Int} (H : slices_IndexFunc___impl_DayRow_impl_DayRow__i1 a0 = some y) (h0 : leLk ar [(.tree ty_DayRow a0), (.fn 26 [])] (leHk h [])) : slices_IndexFunc___impl_DayRow_impl_DayRow__i1.S ar h (slices_IndexFunc___impl_DayRow_impl_DayRow__i1.res a0 y) (slices_IndexFunc___impl_DayRow_impl_DayRow__i1.out a0 y) := ⟨a0, y, H, (args_ok h0).1, (args_ok h0).2, rfl, rfl⟩
set_option maxHeartbeats 100000000 in
set_option maxRecDepth 100000 in
theorem slices_IndexFunc___impl_DayRow_impl_DayRow__i1.spec (a0 : (List DayRow)) (y : Int) (H : slices_IndexFunc___impl_DayRow_impl_DayRow__i1 a0 = some y) : Spec Try.prog 40 [(.tree ty_DayRow a0), (.fn 26 [])] [] (slices_IndexFunc___impl_DayRow_impl_DayRow__i1.res a0 y) (slices_IndexFunc___impl_DayRow_impl_DayRow__i1.out a0 y) := by
  refine spec_intro (G19_ok.at tok []) (ct := []) Try.func40 rfl (by kernel_rfl) (by kernel_rfl) rfl ?_
  repeat' first
    | ((with_reducible refine eqg ?_); exact rfl)
    | ((with_reducible refine KOb.mk ?_); kernel_rfl)
    | ((with_reducible intro h); (repeat (first | replace H := grd_k H | replace H := out_step H (by assumption))); first | replace H := cond_t h H | replace H := cond_f h H | exact absurd h (by decide) | skip)
    | ((with_reducible refine Ob.mk ?_); first | (with_reducible rfl) | (first | ((repeat (first | (with_reducible exact grd_p H) | (replace H := grd_k H) | (replace H := out_step H (by assumption)))); done) | rfl | ((repeat (first | exact grd_p H | replace H := grd_k H | replace H := out_step H (by assumption))); done) | ((repeat (first | exact grd_p H | (have hp := grd_p H; exact hp) | replace H := grd_k H | replace H := out_step H (by assumption) | (replace H := bind_some H; obtain ⟨_, _, H⟩ := H))); done) | (repeat (first | exact grd_p H | replace H := grd_k H | replace H := out_step H (by assumption)))))
    | (with_reducible exact True.intro)
    | ((conv => whnf); first
        | (with_reducible refine And.intro ?_ ?_)
        | (with_reducible exact True.intro)
        | ((with_reducible refine Ob.mk ?_); first | (with_reducible rfl) | (first | ((repeat (first | (with_reducible exact grd_p H) | (replace H := grd_k H) | (replace H := out_step H (by assumption)))); done) | rfl | ((repeat (first | exact grd_p H | replace H := grd_k H | replace H := out_step H (by assumption))); done) | ((repeat (first | exact grd_p H | (have hp := grd_p H; exact hp) | replace H := grd_k H | replace H := out_step H (by assumption) | (replace H := bind_some H; obtain ⟨_, _, H⟩ := H))); done) | (repeat (first | exact grd_p H | replace H := grd_k H | replace H := out_step H (by assumption)))))
        | ((with_reducible refine CallW.mk ?_); (repeat (first | replace H := grd_k H | replace H := out_step H (by assumption))); replace H := bind_some H; obtain ⟨y, hy, H⟩ := H; first | ((with_reducible have hz : impl_BestDays_1 _ = some y := hy); clear hz; refine Exists.intro _ (Exists.intro _ ⟨impl_BestDays_1.call hy ?_, rfl, rfl, ?_⟩)))
        | ((repeat (first | replace H := grd_k H | replace H := out_step H (by assumption))); refine loop_iter (G19_ok.at tok []) (ct := []) (F := (fun s1 : Int => ⟨sl [(0, (.tree ty_DayRow a0)), (1, (.fn 26 [])), (7, (.v (.int .i64 (a0.length : Int)))), (8, (.v (.int .i64 s1)))], []⟩)) (step := (fun s : Int => slices_IndexFunc___impl_DayRow_impl_DayRow__i1_loop1 _ s)) _ H (by kernel_rfl) (sub_auto ?_) ?_; rotate_left; (intro s1 r v hr H); rotate_right)
        | ((repeat (first | replace H := grd_k H | replace H := out_step H (by assumption))); refine again_step H (by assumption) (sub_auto ?_))
        | ((with_reducible refine fin_mk ?_); (repeat (first | replace H := grd_k H | replace H := out_step H (by assumption))); have H := Option.some.inj H; subst H))
    | constructor
  all_goals exact viewz _ _
def G20 : Env := G19.add 40 [] slices_IndexFunc___impl_DayRow_impl_DayRow__i1.S
theorem G20_ok : EnvOk Try.prog G20 := G19_ok.add ent_40 fun ar h r h1 ⟨a0, y, hy, e1, e2, e3, e4⟩ => by
  subst e3 e4; exact (slices_IndexFunc___impl_DayRow_impl_DayRow__i1.spec a0 y hy).le e1 e2
attribute [local irreducible] slices_IndexFunc___impl_DayRow_impl_DayRow__i1

noncomputable def slices_DeleteFunc___impl_DayRow_impl_DayRow__i1_loop1  (v9 : Int) (v10 : Int) (v11 : (List DayRow)) : Option (Lp (Int × Int × (List DayRow)) ((Int × (List DayRow)))) :=
  (cond (decide (v10 < (v11.length : Int))) (grd (0 ≤ v10 ∧ v10 < (v11.length : Int)) ((impl_BestDays_1 ((v11.getD v10.toNat d_DayRow).1, (v11.getD v10.toNat d_DayRow).2.1, (v11.getD v10.toNat d_DayRow).2.2.1, (v11.getD v10.toNat d_DayRow).2.2.2.1, (v11.getD v10.toNat d_DayRow).2.2.2.2.1, (v11.getD v10.toNat d_DayRow).2.2.2.2.2.1, ())).bind fun y12 => (cond (!y12) (grd (0 ≤ v9 ∧ v9 < (v11.length : Int)) (some (.go ((w64 (v9 + (1 : Int))), (w64 (v10 + (1 : Int))), (v11.set v9.toNat ((v11.getD v10.toNat d_DayRow).1, (v11.getD v10.toNat d_DayRow).2.1, (v11.getD v10.toNat d_DayRow).2.2.1, (v11.getD v10.toNat d_DayRow).2.2.2.1, (v11.getD v10.toNat d_DayRow).2.2.2.2.1, (v11.getD v10.toNat d_DayRow).2.2.2.2.2.1, ())))))) (some (.go (v9, (w64 (v10 + (1 : Int))), v11)))))) ((some (.out (v9, v11)))))
noncomputable def slices_DeleteFunc___impl_DayRow_impl_DayRow__i1 (a0 : (List DayRow)) : Option (((List DayRow) × (List DayRow)) ⊕ ((List DayRow))) :=
  ((slices_IndexFunc___impl_DayRow_impl_DayRow__i1 a0).bind fun y1 => (cond (decide (y1 = ((-1) : Int))) ((some (Sum.inl (a0, a0)))) ((iter (fun s => slices_DeleteFunc___impl_DayRow_impl_DayRow__i1_loop1 s.1 s.2.1 s.2.2) (y1, (w64 (y1 + (1 : Int))), a0)).bind (fun r13 => (grd (0 ≤ r13.1 ∧ r13.1 ≤ (r13.2.length : Int) ∧ (r13.2.length : Int) ≤ (r13.2.length : Int)) (grd (0 ≤ (0 : Int) ∧ (0 : Int) ≤ r13.1 ∧ r13.1 ≤ ((clr r13.2 r13.1.toNat (((r13.2.length : Int) - r13.1).toNat) ((0 : Int), (0 : Int), (0 : Int), (0 : Int), (0 : Int), (ByteArray.mk #[]), ())).length : Int)) ((some (Sum.inr ((clr r13.2 r13.1.toNat (((r13.2.length : Int) - r13.1).toNat) ((0 : Int), (0 : Int), (0 : Int), (0 : Int), (0 : Int), (ByteArray.mk #[]), ())).take r13.1.toNat))))))))))
def slices_DeleteFunc___impl_DayRow_impl_DayRow__i1.res (_ : (List DayRow)) (y : ((List DayRow) × (List DayRow)) ⊕ ((List DayRow))) : AV := match y with
  | (.inl y) => (.own 0)
  | (.inr y) => (.own 1)
def slices_DeleteFunc___impl_DayRow_impl_DayRow__i1.out (_ : (List DayRow)) (y : ((List DayRow) × (List DayRow)) ⊕ ((List DayRow))) : List (Option LB) := match y with
  | (.inl y) => [some (.arr 33 ty_DayRow y.2)]
  | (.inr y) => [none, some (.arr 33 ty_DayRow y)]
def slices_DeleteFunc___impl_DayRow_impl_DayRow__i1.S (ar : List AV) (h : List (Option LB)) (r : AV) (h1 : List (Option LB)) : Prop := ∃ a0 y, slices_DeleteFunc___impl_DayRow_impl_DayRow__i1 a0 = some y ∧ leL ar [(.own 0), (.fn 26 [])] ∧ leH h [some (.arr 33 ty_DayRow a0)] ∧ r = slices_DeleteFunc___impl_DayRow_impl_DayRow__i1.res a0 y ∧ h1 = slices_DeleteFunc___impl_DayRow_impl_DayRow__i1.out a0 y
theorem slices_DeleteFunc___impl_DayRow_impl_DayRow__i1.call {ar : List AV} {h : List (Option LB)} {a0 : (List DayRow)} {y : ((List DayRow) × (List DayRow)) ⊕ ((List DayRow))} (H : slices_DeleteFunc___impl_DayRow_impl_DayRow__i1 a0 = some y) (h0 : leLk ar [(.own 0), (.fn 26 [])] (leHk h [some (.arr 33 ty_DayRow a0)])) : slices_DeleteFunc___impl_DayRow_impl_DayRow__i1.S ar h (slices_DeleteFunc___impl_DayRow_impl_DayRow__i1.res a0 y) (slices_DeleteFunc___impl_DayRow_impl_DayRow__i1.out a0 y) := ⟨a0, y, H, (args_ok h0).1, (args_ok h0).2, rfl, rfl⟩
set_option maxHeartbeats 100000000 in
set_option maxRecDepth 100000 in
theorem slices_DeleteFunc___impl_DayRow_impl_DayRow__i1.spec (a0 : (List DayRow)) (y : ((List DayRow) × (List DayRow)) ⊕ ((List DayRow))) (H : slices_DeleteFunc___impl_DayRow_impl_DayRow__i1 a0 = some y) : Spec Try.prog 24 [(.own 0), (.fn 26 [])] [some (.arr 33 ty_DayRow a0)] (slices_DeleteFunc___impl_DayRow_impl_DayRow__i1.res a0 y) (slices_DeleteFunc___impl_DayRow_impl_DayRow__i1.out a0 y) := by
  have hlen : Nat.ble ([some (.arr 33 ty_DayRow a0)] : List (Option LB)).length (slices_DeleteFunc___impl_DayRow_impl_DayRow__i1.out a0 y).length = true := by
    rcases y with y | y <;> rfl
  refine spec_intro (G20_ok.at tok [41]) (ct := [(10, some [0, 1, 5, 6]), (11, some [0, 5])]) Try.func24 rfl (by kernel_rfl) (by kernel_rfl) hlen ?_
  repeat' first
    | ((with_reducible refine eqg ?_); exact rfl)
    | ((with_reducible refine KOb.mk ?_); kernel_rfl)
    | ((with_reducible intro h); (repeat (first | replace H := grd_k H | replace H := out_step H (by assumption))); first | replace H := cond_t h H | replace H := cond_f h H | exact absurd h (by decide) | skip)
    | ((with_reducible refine Ob.mk ?_); first | (with_reducible rfl) | (first | ((repeat (first | (with_reducible exact grd_p H) | (replace H := grd_k H) | (replace H := out_step H (by assumption)))); done) | rfl | ((repeat (first | exact grd_p H | replace H := grd_k H | replace H := out_step H (by assumption))); done) | ((repeat (first | exact grd_p H | (have hp := grd_p H; exact hp) | replace H := grd_k H | replace H := out_step H (by assumption) | (replace H := bind_some H; obtain ⟨_, _, H⟩ := H))); done) | (repeat (first | exact grd_p H | replace H := grd_k H | replace H := out_step H (by assumption)))))
    | (with_reducible exact True.intro)
    | ((conv => whnf); first
        | (with_reducible refine And.intro ?_ ?_)
        | (with_reducible exact True.intro)
        | ((with_reducible refine Ob.mk ?_); first | (with_reducible rfl) | (first | ((repeat (first | (with_reducible exact grd_p H) | (replace H := grd_k H) | (replace H := out_step H (by assumption)))); done) | rfl | ((repeat (first | exact grd_p H | replace H := grd_k H | replace H := out_step H (by assumption))); done) | ((repeat (first | exact grd_p H | (have hp := grd_p H; exact hp) | replace H := grd_k H | replace H := out_step H (by assumption) | (replace H := bind_some H; obtain ⟨_, _, H⟩ := H))); done) | (repeat (first | exact grd_p H | replace H := grd_k H | replace H := out_step H (by assumption)))))
        | ((with_reducible refine CallW.mk ?_); (repeat (first | replace H := grd_k H | replace H := out_step H (by assumption))); replace H := bind_some H; obtain ⟨y, hy, H⟩ := H; first | ((with_reducible have hz : slices_IndexFunc___impl_DayRow_impl_DayRow__i1 _ = some y := hy); clear hz; refine Exists.intro _ (Exists.intro _ ⟨slices_IndexFunc___impl_DayRow_impl_DayRow__i1.call hy ?_, rfl, rfl, ?_⟩)) | ((with_reducible have hz : impl_BestDays_1 _ = some y := hy); clear hz; refine Exists.intro _ (Exists.intro _ ⟨impl_BestDays_1.call hy ?_, rfl, rfl, ?_⟩)))
        | ((repeat (first | replace H := grd_k H | replace H := out_step H (by assumption))); refine loop_iter (G20_ok.at tok [41]) (ct := [(10, some [0, 1, 5, 6]), (11, some [0, 5])]) (F := (fun s1 : Int × Int × (List DayRow) => ⟨sl [(0, (.own 0)), (1, (.fn 26 [])), (5, (.v (.int .i64 s1.1))), (6, (.v (.int .i64 s1.2.1)))], [some (.arr 33 ty_DayRow s1.2.2)]⟩)) (step := (fun s : Int × Int × (List DayRow) => slices_DeleteFunc___impl_DayRow_impl_DayRow__i1_loop1 s.1 s.2.1 s.2.2)) _ H (by kernel_rfl) (sub_auto ?_) ?_; rotate_left; (intro s1 r v hr H); rotate_right)
        | ((repeat (first | replace H := grd_k H | replace H := out_step H (by assumption))); refine again_step H (by assumption) (sub_auto ?_))
        | ((with_reducible refine fin_mk ?_); (repeat (first | replace H := grd_k H | replace H := out_step H (by assumption))); have H := Option.some.inj H; subst H))
    | constructor
  all_goals exact viewz _ _
def G21 : Env := G20.add 24 [true] slices_DeleteFunc___impl_DayRow_impl_DayRow__i1.S
theorem G21_ok : EnvOk Try.prog G21 := G20_ok.add ent_24 fun ar h r h1 ⟨a0, y, hy, e1, e2, e3, e4⟩ => by
  subst e3 e4; exact (slices_DeleteFunc___impl_DayRow_impl_DayRow__i1.spec a0 y hy).le e1 e2
attribute [local irreducible] slices_DeleteFunc___impl_DayRow_impl_DayRow__i1

noncomputable def slices_insertionSortCmpFunc_impl_DayRow__i1_loop2 (a1 : Int) (v43 : Int) (v44 : (List DayRow)) : Option (Lp (Int × (List DayRow)) ((Int × Int × Int × Int × Int × Int × ByteArray × Int × Int × Int × Int × Int × Int × Int × ByteArray × Int × Bool × (List DayRow)) ⊕ ((List DayRow)))) :=
  (cond (decide (a1 < v43)) (grd (0 ≤ v43 ∧ v43 < (v44.length : Int)) (grd (0 ≤ (w64 (v43 - (1 : Int))) ∧ (w64 (v43 - (1 : Int))) < (v44.length : Int)) ((impl_BestDays_2 ((v44.getD v43.toNat d_DayRow).1, (v44.getD v43.toNat d_DayRow).2.1, (v44.getD v43.toNat d_DayRow).2.2.1, (v44.getD v43.toNat d_DayRow).2.2.2.1, (v44.getD v43.toNat d_DayRow).2.2.2.2.1, (v44.getD v43.toNat d_DayRow).2.2.2.2.2.1, ()) ((v44.getD ((w64 (v43 - (1 : Int))).toNat) d_DayRow).1, (v44.getD ((w64 (v43 - (1 : Int))).toNat) d_DayRow).2.1, (v44.getD ((w64 (v43 - (1 : Int))).toNat) d_DayRow).2.2.1, (v44.getD ((w64 (v43 - (1 : Int))).toNat) d_DayRow).2.2.2.1, (v44.getD ((w64 (v43 - (1 : Int))).toNat) d_DayRow).2.2.2.2.1, (v44.getD ((w64 (v43 - (1 : Int))).toNat) d_DayRow).2.2.2.2.2.1, ())).bind fun y45 => (cond (decide (y45 < (0 : Int))) (grd (0 ≤ (w64 (v43 - (1 : Int))) ∧ (w64 (v43 - (1 : Int))) < (v44.length : Int)) (grd (0 ≤ v43 ∧ v43 < (v44.length : Int)) (grd (0 ≤ v43 ∧ v43 < (v44.length : Int)) (grd (0 ≤ (w64 (v43 - (1 : Int))) ∧ (w64 (v43 - (1 : Int))) < ((v44.set v43.toNat ((v44.getD ((w64 (v43 - (1 : Int))).toNat) d_DayRow).1, (v44.getD ((w64 (v43 - (1 : Int))).toNat) d_DayRow).2.1, (v44.getD ((w64 (v43 - (1 : Int))).toNat) d_DayRow).2.2.1, (v44.getD ((w64 (v43 - (1 : Int))).toNat) d_DayRow).2.2.2.1, (v44.getD ((w64 (v43 - (1 : Int))).toNat) d_DayRow).2.2.2.2.1, (v44.getD ((w64 (v43 - (1 : Int))).toNat) d_DayRow).2.2.2.2.2.1, ())).length : Int)) (some (.go ((w64 (v43 - (1 : Int))), ((v44.set v43.toNat ((v44.getD ((w64 (v43 - (1 : Int))).toNat) d_DayRow).1, (v44.getD ((w64 (v43 - (1 : Int))).toNat) d_DayRow).2.1, (v44.getD ((w64 (v43 - (1 : Int))).toNat) d_DayRow).2.2.1, (v44.getD ((w64 (v43 - (1 : Int))).toNat) d_DayRow).2.2.2.1, (v44.getD ((w64 (v43 - (1 : Int))).toNat) d_DayRow).2.2.2.2.1, (v44.getD ((w64 (v43 - (1 : Int))).toNat) d_DayRow).2.2.2.2.2.1, ())).set ((w64 (v43 - (1 : Int))).toNat) ((v44.getD v43.toNat d_DayRow).1, (v44.getD v43.toNat d_DayRow).2.1, (v44.getD v43.toNat d_DayRow).2.2.1, (v44.getD v43.toNat d_DayRow).2.2.2.1, (v44.getD v43.toNat d_DayRow).2.2.2.2.1, (v44.getD v43.toNat d_DayRow).2.2.2.2.2.1, ()))))))))) ((some (.out (Sum.inl (v43, ((v44.getD v43.toNat d_DayRow).1), ((v44.getD v43.toNat d_DayRow).2.1), ((v44.getD v43.toNat d_DayRow).2.2.1), ((v44.getD v43.toNat d_DayRow).2.2.2.1), ((v44.getD v43.toNat d_DayRow).2.2.2.2.1), ((v44.getD v43.toNat d_DayRow).2.2.2.2.2.1), v43, (w64 (v43 - (1 : Int))), ((v44.getD ((w64 (v43 - (1 : Int))).toNat) d_DayRow).1), ((v44.getD ((w64 (v43 - (1 : Int))).toNat) d_DayRow).2.1), ((v44.getD ((w64 (v43 - (1 : Int))).toNat) d_DayRow).2.2.1), ((v44.getD ((w64 (v43 - (1 : Int))).toNat) d_DayRow).2.2.2.1), ((v44.getD ((w64 (v43 - (1 : Int))).toNat) d_DayRow).2.2.2.2.1), ((v44.getD ((w64 (v43 - (1 : Int))).toNat) d_DayRow).2.2.2.2.2.1), y45, (decide (y45 < (0 : Int))), v44))))))))) ((some (.out (Sum.inr v44)))))
noncomputable def slices_insertionSortCmpFunc_impl_DayRow__i1_loop1 (a1 : Int) (a2 : Int) (v36 : Int) (v37 : (List DayRow)) : Option (Lp (Int × (List DayRow)) (((List DayRow)))) :=
  (cond (decide (v36 < a2)) ((iter (fun s => slices_insertionSortCmpFunc_impl_DayRow__i1_loop2 a1 s.1 s.2) (v36, v37)).bind (Sum.elim (fun r47 => (some (.go ((w64 (v36 + (1 : Int))), r47.2.2.2.2.2.2.2.2.2.2.2.2.2.2.2.2.2)))) (fun r48 => (some (.go ((w64 (v36 + (1 : Int))), r48)))))) ((some (.out v37))))
noncomputable def slices_insertionSortCmpFunc_impl_DayRow__i1 (a0 : (List DayRow)) (a1 : Int) (a2 : Int) : Option ((List DayRow)) :=
  ((iter (fun s => slices_insertionSortCmpFunc_impl_DayRow__i1_loop1 a1 a2 s.1 s.2) ((w64 (a1 + (1 : Int))), a0)).bind (fun r49 => (some r49)))
def slices_insertionSortCmpFunc_impl_DayRow__i1.res (_ : (List DayRow)) (_ : Int) (_ : Int) (_ : (List DayRow)) : AV := (.tup [])
def slices_insertionSortCmpFunc_impl_DayRow__i1.out (_ : (List DayRow)) (_ : Int) (_ : Int) (y : (List DayRow)) : List (Option LB) := [some (.arr 33 ty_DayRow y)]
def slices_insertionSortCmpFunc_impl_DayRow__i1.S (ar : List AV) (h : List (Option LB)) (r : AV) (h1 : List (Option LB)) : Prop := ∃ a0 a1 a2 y, slices_insertionSortCmpFunc_impl_DayRow__i1 a0 a1 a2 = some y ∧ leL ar [(.own 0), (.v (.int .i64 a1)), (.v (.int .i64 a2)), (.fn 28 [])] ∧ leH h [some (.arr 33 ty_DayRow a0)] ∧ r = slices_insertionSortCmpFunc_impl_DayRow__i1.res a0 a1 a2 y ∧ h1 = slices_insertionSortCmpFunc_impl_DayRow__i1.out a0 a1 a2 y
theorem slices_insertionSortCmpFunc_impl_DayRow__i1.call {ar : List AV} {h : List (Option LB)} {a0 : (List DayRow)} {a1 : Int} {a2 : Int} {y : (List DayRow)} (H : slices_insertionSortCmpFunc_impl_DayRow__i1 a0 a1 a2 = some y) (h0 : leLk ar [(.own 0), (.v (.int .i64 a1)), (.v (.int .i64 a2)), (.fn 28 [])] (leHk h [some (.arr 33 ty_DayRow a0)])) : slices_insertionSortCmpFunc_impl_DayRow__i1.S ar h (slices_insertionSortCmpFunc_impl_DayRow__i1.res a0 a1 a2 y) (slices_insertionSortCmpFunc_impl_DayRow__i1.out a0 a1 a2 y) := ⟨a0, a1, a2, y, H, (args_ok h0).1, (args_ok h0).2, rfl, rfl⟩
set_option maxHeartbeats 100000000 in
set_option maxRecDepth 100000 in
theorem slices_insertionSortCmpFunc_impl_DayRow__i1.spec (a0 : (List DayRow)) (a1 : Int) (a2 : Int) (y : (List DayRow)) (H : slices_insertionSortCmpFunc_impl_DayRow__i1 a0 a1 a2 = some y) : Spec Try.prog 48 [(.own 0), (.v (.int .i64 a1)), (.v (.int .i64 a2)), (.fn 28 [])] [some (.arr 33 ty_DayRow a0)] (slices_insertionSortCmpFunc_impl_DayRow__i1.res a0 a1 a2 y) (slices_insertionSortCmpFunc_impl_DayRow__i1.out a0 a1 a2 y) := by
  refine spec_intro (G21_ok.at tok []) (ct := [(5, some [0, 1, 2, 3, 8, 9, 22, 23, 24, 25, 26, 27, 28, 29, 30, 31, 32, 33]), (6, some [0, 1, 2, 3, 8, 9, 22, 23, 24, 25, 26, 27, 28, 29, 30, 31, 32, 33])]) Try.func48 rfl (by kernel_rfl) (by kernel_rfl) rfl ?_
  repeat' first
    | ((with_reducible refine eqg ?_); exact rfl)
    | ((with_reducible refine KOb.mk ?_); kernel_rfl)
    | ((with_reducible intro h); (repeat (first | replace H := grd_k H | replace H := out_step H (by assumption))); first | replace H := cond_t h H | replace H := cond_f h H | exact absurd h (by decide) | skip)
    | ((with_reducible refine Ob.mk ?_); first | (with_reducible rfl) | (first | ((repeat (first | (with_reducible exact grd_p H) | (replace H := grd_k H) | (replace H := out_step H (by assumption)))); done) | rfl | ((repeat (first | exact grd_p H | replace H := grd_k H | replace H := out_step H (by assumption))); done) | ((repeat (first | exact grd_p H | (have hp := grd_p H; exact hp) | replace H := grd_k H | replace H := out_step H (by assumption) | (replace H := bind_some H; obtain ⟨_, _, H⟩ := H))); done) | (repeat (first | exact grd_p H | replace H := grd_k H | replace H := out_step H (by assumption)))))
    | (with_reducible exact True.intro)
    | ((conv => whnf); first
        | (with_reducible refine And.intro ?_ ?_)
        | (with_reducible exact True.intro)
        | ((with_reducible refine Ob.mk ?_); first | (with_reducible rfl) | (first | ((repeat (first | (with_reducible exact grd_p H) | (replace H := grd_k H) | (replace H := out_step H (by assumption)))); done) | rfl | ((repeat (first | exact grd_p H | replace H := grd_k H | replace H := out_step H (by assumption))); done) | ((repeat (first | exact grd_p H | (have hp := grd_p H; exact hp) | replace H := grd_k H | replace H := out_step H (by assumption) | (replace H := bind_some H; obtain ⟨_, _, H⟩ := H))); done) | (repeat (first | exact grd_p H | replace H := grd_k H | replace H := out_step H (by assumption)))))
        | ((with_reducible refine CallW.mk ?_); (repeat (first | replace H := grd_k H | replace H := out_step H (by assumption))); replace H := bind_some H; obtain ⟨y, hy, H⟩ := H; first | ((with_reducible have hz : impl_BestDays_2 _ _ = some y := hy); clear hz; refine Exists.intro _ (Exists.intro _ ⟨impl_BestDays_2.call hy ?_, rfl, rfl, ?_⟩)))
        | ((repeat (first | replace H := grd_k H | replace H := out_step H (by assumption))); refine loop_iter (G21_ok.at tok []) (ct := [(5, some [0, 1, 2, 3, 8, 9, 22, 23, 24, 25, 26, 27, 28, 29, 30, 31, 32, 33]), (6, some [0, 1, 2, 3, 8, 9, 22, 23, 24, 25, 26, 27, 28, 29, 30, 31, 32, 33])]) (F := (fun s1 : Int × (List DayRow) => ⟨sl [(0, (.own 0)), (1, (.v (.int .i64 a1))), (2, (.v (.int .i64 a2))), (3, (.fn 28 [])), (8, (.v (.int .i64 s1.1)))], [some (.arr 33 ty_DayRow s1.2)]⟩)) (step := (fun s : Int × (List DayRow) => slices_insertionSortCmpFunc_impl_DayRow__i1_loop1 _ _ s.1 s.2)) _ H (by kernel_rfl) (sub_auto ?_) ?_; rotate_left; (intro s1 r v hr H); rotate_right)
        | ((repeat (first | replace H := grd_k H | replace H := out_step H (by assumption))); refine loop_iter (G21_ok.at tok []) (ct := [(5, some [0, 1, 2, 3, 8, 9, 22, 23, 24, 25, 26, 27, 28, 29, 30, 31, 32, 33]), (6, some [0, 1, 2, 3, 8, 9, 22, 23, 24, 25, 26, 27, 28, 29, 30, 31, 32, 33])]) (F := (fun s2 : Int × (List DayRow) => ⟨sl [(0, (.own 0)), (1, (.v (.int .i64 a1))), (2, (.v (.int .i64 a2))), (3, (.fn 28 [])), (8, (.v (.int .i64 s1.1))), (9, (.v (.int .i64 s2.1)))], [some (.arr 33 ty_DayRow s2.2)]⟩)) (step := (fun s : Int × (List DayRow) => slices_insertionSortCmpFunc_impl_DayRow__i1_loop2 _ s.1 s.2)) _ H (by kernel_rfl) (sub_auto ?_) ?_; rotate_left; (intro s2 r v hr H); rotate_right)
        | ((repeat (first | replace H := grd_k H | replace H := out_step H (by assumption))); refine again_step H (by assumption) (sub_auto ?_))
        | ((with_reducible refine fin_mk ?_); (repeat (first | replace H := grd_k H | replace H := out_step H (by assumption))); have H := Option.some.inj H; subst H))
    | constructor
  all_goals exact viewz _ _
def G22 : Env := G21.add 48 [true] slices_insertionSortCmpFunc_impl_DayRow__i1.S
theorem G22_ok : EnvOk Try.prog G22 := G21_ok.add ent_48 fun ar h r h1 ⟨a0, a1, a2, y, hy, e1, e2, e3, e4⟩ => by
  subst e3 e4; exact (slices_insertionSortCmpFunc_impl_DayRow__i1.spec a0 a1 a2 y hy).le e1 e2
attribute [local irreducible] slices_insertionSortCmpFunc_impl_DayRow__i1

noncomputable def slices_symMergeCmpFunc_impl_DayRow__i1 (_ : (List DayRow)) (_ : Int) (_ : Int) (_ : Int) : Option (Unit) :=
  none
def slices_symMergeCmpFunc_impl_DayRow__i1.res (_ : (List DayRow)) (_ : Int) (_ : Int) (_ : Int) (_ : Unit) : AV := (.tup [])
def slices_symMergeCmpFunc_impl_DayRow__i1.out (_ : (List DayRow)) (_ : Int) (_ : Int) (_ : Int) (_ : Unit) : List (Option LB) := []
def slices_symMergeCmpFunc_impl_DayRow__i1.S (ar : List AV) (h : List (Option LB)) (r : AV) (h1 : List (Option LB)) : Prop := ∃ a0 a1 a2 a3 y, slices_symMergeCmpFunc_impl_DayRow__i1 a0 a1 a2 a3 = some y ∧ leL ar [(.tree ty_DayRow a0), (.v (.int .i64 a1)), (.v (.int .i64 a2)), (.v (.int .i64 a3)), (.fn 28 [])] ∧ leH h [] ∧ r = slices_symMergeCmpFunc_impl_DayRow__i1.res a0 a1 a2 a3 y ∧ h1 = slices_symMergeCmpFunc_impl_DayRow__i1.out a0 a1 a2 a3 y
theorem slices_symMergeCmpFunc_impl_DayRow__i1.call {ar : List AV} {h : List (Option LB)} {a0 : (List DayRow)} {a1 : Int} {a2 : Int} {a3 : Int} {y : Unit} (H : slices_symMergeCmpFunc_impl_DayRow__i1 a0 a1 a2 a3 = some y) (h0 : leLk ar [(.tree ty_DayRow a0), (.v (.int .i64 a1)), (.v (.int .i64 a2)), (.v (.int .i64 a3)), (.fn 28 [])] (leHk h [])) : slices_symMergeCmpFunc_impl_DayRow__i1.S ar h (slices_symMergeCmpFunc_impl_DayRow__i1.res a0 a1 a2 a3 y) (slices_symMergeCmpFunc_impl_DayRow__i1.out a0 a1 a2 a3 y) := ⟨a0, a1, a2, a3, y, H, (args_ok h0).1, (args_ok h0).2, rfl, rfl⟩
theorem slices_symMergeCmpFunc_impl_DayRow__i1.spec (a0 : (List DayRow)) (a1 : Int) (a2 : Int) (a3 : Int) (y : Unit) (H : slices_symMergeCmpFunc_impl_DayRow__i1 a0 a1 a2 a3 = some y) : Spec Try.prog 49 [(.tree ty_DayRow a0), (.v (.int .i64 a1)), (.v (.int .i64 a2)), (.v (.int .i64 a3)), (.fn 28 [])] [] (slices_symMergeCmpFunc_impl_DayRow__i1.res a0 a1 a2 a3 y) (slices_symMergeCmpFunc_impl_DayRow__i1.out a0 a1 a2 a3 y) := by
  unfold slices_symMergeCmpFunc_impl_DayRow__i1 at H
  cases H
def G23 : Env := G22.add 49 [] slices_symMergeCmpFunc_impl_DayRow__i1.S
theorem G23_ok : EnvOk Try.prog G23 := G22_ok.add ent_49 fun ar h r h1 ⟨a0, a1, a2, a3, y, hy, e1, e2, e3, e4⟩ => by
  subst e3 e4; exact (slices_symMergeCmpFunc_impl_DayRow__i1.spec a0 a1 a2 a3 y hy).le e1 e2
attribute [local irreducible] slices_symMergeCmpFunc_impl_DayRow__i1

noncomputable def slices_stableCmpFunc_impl_DayRow__i1_loop1 (a1 : Int) (v6 : Int) (v7 : Int) (v8 : (List DayRow)) : Option (Lp (Int × Int × (List DayRow)) ((Int × (List DayRow)))) :=
  (cond (decide (v7 ≤ a1)) ((slices_insertionSortCmpFunc_impl_DayRow__i1 v8 v6 v7).bind fun y9 => (some (.go (v7, (w64 (v7 + (20 : Int))), y9)))) ((some (.out (v6, v8)))))
noncomputable def slices_stableCmpFunc_impl_DayRow__i1_loop3 (a1 : Int) (v17 : Int)  : Option (Lp (Unit) ((Unit))) :=
  (cond (decide ((w64 ((2 : Int) * v17)) ≤ a1)) (grd (False) none) ((some (.out ()))))
noncomputable def slices_stableCmpFunc_impl_DayRow__i1_loop2 (a1 : Int) (v17 : Int) (v18 : (List DayRow)) : Option (Lp (Int × (List DayRow)) (((List DayRow)))) :=
  (cond (decide (v17 < a1)) ((iter (fun _ => slices_stableCmpFunc_impl_DayRow__i1_loop3 a1 v17) ()).bind (fun _ => (cond (decide ((w64 ((0 : Int) + v17)) < a1)) (grd (False) none) (some (.go ((w64 (v17 * (2 : Int))), v18)))))) ((some (.out v18))))
noncomputable def slices_stableCmpFunc_impl_DayRow__i1 (a0 : (List DayRow)) (a1 : Int) : Option ((List DayRow)) :=
  ((iter (fun s => slices_stableCmpFunc_impl_DayRow__i1_loop1 a1 s.1 s.2.1 s.2.2) ((0 : Int), (20 : Int), a0)).bind (fun r10 => ((slices_insertionSortCmpFunc_impl_DayRow__i1 r10.2 r10.1 a1).bind fun y11 => ((iter (fun s => slices_stableCmpFunc_impl_DayRow__i1_loop2 a1 s.1 s.2) ((20 : Int), y11)).bind (fun r20 => (some r20))))))
def slices_stableCmpFunc_impl_DayRow__i1.res (_ : (List DayRow)) (_ : Int) (_ : (List DayRow)) : AV := (.tup [])
def slices_stableCmpFunc_impl_DayRow__i1.out (_ : (List DayRow)) (_ : Int) (y : (List DayRow)) : List (Option LB) := [some (.arr 33 ty_DayRow y)]
def slices_stableCmpFunc_impl_DayRow__i1.S (ar : List AV) (h : List (Option LB)) (r : AV) (h1 : List (Option LB)) : Prop := ∃ a0 a1 y, slices_stableCmpFunc_impl_DayRow__i1 a0 a1 = some y ∧ leL ar [(.own 0), (.v (.int .i64 a1)), (.fn 28 [])] ∧ leH h [some (.arr 33 ty_DayRow a0)] ∧ r = slices_stableCmpFunc_impl_DayRow__i1.res a0 a1 y ∧ h1 = slices_stableCmpFunc_impl_DayRow__i1.out a0 a1 y
theorem slices_stableCmpFunc_impl_DayRow__i1.call {ar : List AV} {h : List (Option LB)} {a0 : (List DayRow)} {a1 : Int} {y : (List DayRow)} (H : slices_stableCmpFunc_impl_DayRow__i1 a0 a1 = some y) (h0 : leLk ar [(.own 0), (.v (.int .i64 a1)), (.fn 28 [])] (leHk h [some (.arr 33 ty_DayRow a0)])) : slices_stableCmpFunc_impl_DayRow__i1.S ar h (slices_stableCmpFunc_impl_DayRow__i1.res a0 a1 y) (slices_stableCmpFunc_impl_DayRow__i1.out a0 a1 y) := ⟨a0, a1, y, H, (args_ok h0).1, (args_ok h0).2, rfl, rfl⟩
set_option maxHeartbeats 100000000 in
set_option maxRecDepth 100000 in
theorem slices_stableCmpFunc_impl_DayRow__i1.spec (a0 : (List DayRow)) (a1 : Int) (y : (List DayRow)) (H : slices_stableCmpFunc_impl_DayRow__i1 a0 a1 = some y) : Spec Try.prog 41 [(.own 0), (.v (.int .i64 a1)), (.fn 28 [])] [some (.arr 33 ty_DayRow a0)] (slices_stableCmpFunc_impl_DayRow__i1.res a0 a1 y) (slices_stableCmpFunc_impl_DayRow__i1.out a0 a1 y) := by
  refine spec_intro (G23_ok.at tok []) (ct := [(15, some [0, 1, 2, 6, 7, 9, 54])]) Try.func41 rfl (by kernel_rfl) (by kernel_rfl) rfl ?_
  repeat' first
    | ((with_reducible refine eqg ?_); exact rfl)
    | ((with_reducible refine KOb.mk ?_); kernel_rfl)
    | ((with_reducible intro h); (repeat (first | replace H := grd_k H | replace H := out_step H (by assumption))); first | replace H := cond_t h H | replace H := cond_f h H | exact absurd h (by decide) | skip)
    | ((with_reducible refine Ob.mk ?_); first | (with_reducible rfl) | (first | ((repeat (first | (with_reducible exact grd_p H) | (replace H := grd_k H) | (replace H := out_step H (by assumption)))); done) | rfl | ((repeat (first | exact grd_p H | replace H := grd_k H | replace H := out_step H (by assumption))); done) | ((repeat (first | exact grd_p H | (have hp := grd_p H; exact hp) | replace H := grd_k H | replace H := out_step H (by assumption) | (replace H := bind_some H; obtain ⟨_, _, H⟩ := H))); done) | (repeat (first | exact grd_p H | replace H := grd_k H | replace H := out_step H (by assumption)))))
    | (with_reducible exact True.intro)
    | ((conv => whnf); first
        | (with_reducible refine And.intro ?_ ?_)
        | (with_reducible exact True.intro)
        | ((with_reducible refine Ob.mk ?_); first | (with_reducible rfl) | (first | ((repeat (first | (with_reducible exact grd_p H) | (replace H := grd_k H) | (replace H := out_step H (by assumption)))); done) | rfl | ((repeat (first | exact grd_p H | replace H := grd_k H | replace H := out_step H (by assumption))); done) | ((repeat (first | exact grd_p H | (have hp := grd_p H; exact hp) | replace H := grd_k H | replace H := out_step H (by assumption) | (replace H := bind_some H; obtain ⟨_, _, H⟩ := H))); done) | (repeat (first | exact grd_p H | replace H := grd_k H | replace H := out_step H (by assumption)))))
        | ((with_reducible refine CallW.mk ?_); (repeat (first | replace H := grd_k H | replace H := out_step H (by assumption))); replace H := bind_some H; obtain ⟨y, hy, H⟩ := H; first | ((with_reducible have hz : slices_insertionSortCmpFunc_impl_DayRow__i1 _ _ _ = some y := hy); clear hz; refine Exists.intro _ (Exists.intro _ ⟨slices_insertionSortCmpFunc_impl_DayRow__i1.call hy ?_, rfl, rfl, ?_⟩)))
        | ((repeat (first | replace H := grd_k H | replace H := out_step H (by assumption))); refine loop_iter (G23_ok.at tok []) (ct := [(15, some [0, 1, 2, 6, 7, 9, 54])]) (F := (fun s1 : Int × Int × (List DayRow) => ⟨sl [(0, (.own 0)), (1, (.v (.int .i64 a1))), (2, (.fn 28 [])), (6, (.v (.int .i64 (20 : Int)))), (7, (.v (.int .i64 s1.1))), (8, (.v (.int .i64 s1.2.1)))], [some (.arr 33 ty_DayRow s1.2.2)]⟩)) (step := (fun s : Int × Int × (List DayRow) => slices_stableCmpFunc_impl_DayRow__i1_loop1 _ s.1 s.2.1 s.2.2)) _ H (by kernel_rfl) (sub_auto ?_) ?_; rotate_left; (intro s1 r v hr H); rotate_right)
        | ((repeat (first | replace H := grd_k H | replace H := out_step H (by assumption))); refine loop_iter (G23_ok.at tok []) (ct := [(15, some [0, 1, 2, 6, 7, 9, 54])]) (F := (fun s2 : Int × (List DayRow) => ⟨sl [(0, (.own 0)), (1, (.v (.int .i64 a1))), (2, (.fn 28 [])), (6, (.v (.int .i64 s2.1)))], [some (.arr 33 ty_DayRow s2.2)]⟩)) (step := (fun s : Int × (List DayRow) => slices_stableCmpFunc_impl_DayRow__i1_loop2 _ s.1 s.2)) _ H (by kernel_rfl) (sub_auto ?_) ?_; rotate_left; (intro s2 r v hr H); rotate_right)
        | ((repeat (first | replace H := grd_k H | replace H := out_step H (by assumption))); refine loop_iter (G23_ok.at tok []) (ct := [(15, some [0, 1, 2, 6, 7, 9, 54])]) (F := (fun s3 : Unit => ⟨sl [(0, (.own 0)), (1, (.v (.int .i64 a1))), (2, (.fn 28 [])), (6, (.v (.int .i64 s2.1))), (7, (.v (.int .i64 (0 : Int)))), (8, (.v (.int .i64 (w64 ((2 : Int) * s2.1)))))], [some (.arr 33 ty_DayRow s2.2)]⟩)) (step := (fun s : Unit => slices_stableCmpFunc_impl_DayRow__i1_loop3 _ _)) _ H (by kernel_rfl) (sub_auto ?_) ?_; rotate_left; (intro s3 r v hr H); rotate_right)
        | ((repeat (first | replace H := grd_k H | replace H := out_step H (by assumption))); refine again_step H (by assumption) (sub_auto ?_))
        | ((with_reducible refine fin_mk ?_); (repeat (first | replace H := grd_k H | replace H := out_step H (by assumption))); have H := Option.some.inj H; subst H)
        | (exact (grd_no H).elim))
    | constructor
  all_goals exact viewz _ _
def G24 : Env := G23.add 41 [true] slices_stableCmpFunc_impl_DayRow__i1.S
theorem G24_ok : EnvOk Try.prog G24 := G23_ok.add ent_41 fun ar h r h1 ⟨a0, a1, y, hy, e1, e2, e3, e4⟩ => by
  subst e3 e4; exact (slices_stableCmpFunc_impl_DayRow__i1.spec a0 a1 y hy).le e1 e2
attribute [local irreducible] slices_stableCmpFunc_impl_DayRow__i1

end Go.Proofs.Ytppiaacfnoifkaa
