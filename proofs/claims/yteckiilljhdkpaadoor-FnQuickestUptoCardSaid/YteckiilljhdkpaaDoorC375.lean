/-
  Contracts, printed by a program.
-/
import Derived.Test.YteckiilljhdkpaaDoorC374
namespace Go.Proofs.YteckiilljhdkpaaDoor
open Go.RowKit
attribute [local irreducible] Ob loopwp Sub Spec Fin Again CallW CutC KOb iter joinx outm

attribute [local irreducible] laws_rBig spec_l1Cur_next spec_l1Cur_pick spec_l1Cur_among spec_l1Cur_one spec_l1Cur_platform spec_DrawIsPlatform spec_DrawQuickestGo impl_within impl_IsPlatform impl_boardCounts slices_Index___string_string_ slices_Contains___string_string_ impl_IsBoardEvent impl_Platform_step impl_Platform_mostEntering impl_QuickestGo_1_i1 impl_QuickestGo spec_l1In spec_l14Good spec_l1Least spec_l14Entering spec_l14Most spec_l14Event spec_l14Can spec_l14Step spec_QuickestGo laws_rEvents

noncomputable def impl_RunPlatform_loop1 (a1 : (List BoardEvent)) (v12 : Int) (v13 : Int) (v14 : Int) (v15 : Int) (v16 : Int) (v17 : Int) (v18 : Bool) (v19 : Int) : Option (Lp (Int × Int × Int × Int × Int × Int × Bool × Int) ((Int × Int × Int × Int × Int × Bool × Int))) :=
  (cond (decide (v13 < (a1.length : Int))) (grd (0 ≤ v13 ∧ v13 < (a1.length : Int)) ((impl_Platform_step (v14, v15, v16, v17, v18, v19, ()) ((a1.getD v13.toNat d_BoardEvent).1, (a1.getD v13.toNat d_BoardEvent).2.1, ())).bind fun y20 => (cond (!y20.2) ((some (.out (v12, v14, v15, v16, v17, v18, v19)))) (some (.go ((w64 (v12 + (1 : Int))), (w64 (v13 + (1 : Int))), y20.1.1, y20.1.2.1, y20.1.2.2.1, y20.1.2.2.2.1, y20.1.2.2.2.2.1, y20.1.2.2.2.2.2.1)))))) ((some (.out (v12, v14, v15, v16, v17, v18, v19)))))
noncomputable def impl_RunPlatform (a0 : Platform) (a1 : (List BoardEvent)) : Option (Platform × Int × Bool) :=
  ((impl_IsPlatform (a0.1, a0.2.1, a0.2.2.1, a0.2.2.2.1, a0.2.2.2.2.1, a0.2.2.2.2.2.1, ())).bind fun y1 => (cond (!y1) ((some (((0 : Int), (0 : Int), (0 : Int), (0 : Int), false, (0 : Int), ()), (0 : Int), false))) (cond (decide ((20 : Int) < (a1.length : Int))) ((some (((0 : Int), (0 : Int), (0 : Int), (0 : Int), false, (0 : Int), ()), (0 : Int), false))) ((iter (fun s => impl_RunPlatform_loop1 a1 s.1 s.2.1 s.2.2.1 s.2.2.2.1 s.2.2.2.2.1 s.2.2.2.2.2.1 s.2.2.2.2.2.2.1 s.2.2.2.2.2.2.2) ((0 : Int), (0 : Int), a0.1, a0.2.1, a0.2.2.1, a0.2.2.2.1, a0.2.2.2.2.1, a0.2.2.2.2.2.1)).bind (fun r21 => (some ((r21.2.1, r21.2.2.1, r21.2.2.2.1, r21.2.2.2.2.1, r21.2.2.2.2.2.1, r21.2.2.2.2.2.2, ()), r21.1, true)))))))
def impl_RunPlatform.res (_ : Platform) (_ : (List BoardEvent)) (y : Platform × Int × Bool) : AV := (.tup [(.agg [(.v (.int .i64 y.1.1)), (.v (.int .i64 y.1.2.1)), (.v (.int .i64 y.1.2.2.1)), (.v (.int .i64 y.1.2.2.2.1)), (.bl y.1.2.2.2.2.1), (.v (.int .i64 y.1.2.2.2.2.2.1))]), (.v (.int .i64 y.2.1)), (.bl y.2.2)])
def impl_RunPlatform.out (_ : Platform) (_ : (List BoardEvent)) (_ : Platform × Int × Bool) : List (Option LB) := []
def impl_RunPlatform.S (ar : List AV) (h : List (Option LB)) (r : AV) (h1 : List (Option LB)) : Prop := ∃ a0 a1 y, impl_RunPlatform a0 a1 = some y ∧ leL ar [(.agg [(.v (.int .i64 a0.1)), (.v (.int .i64 a0.2.1)), (.v (.int .i64 a0.2.2.1)), (.v (.int .i64 a0.2.2.2.1)), (.bl a0.2.2.2.2.1), (.v (.int .i64 a0.2.2.2.2.2.1))]), (.tree ty_BoardEvent a1)] ∧ leH h [] ∧ r = impl_RunPlatform.res a0 a1 y ∧ h1 = impl_RunPlatform.out a0 a1 y
theorem impl_RunPlatform.call {ar : List AV} {h : List (Option LB)} {a0 : Platform} {a1 : (List BoardEvent)} {y : Platform × Int × Bool} (H : impl_RunPlatform a0 a1 = some y) (h0 : leLk ar [(.agg [(.v (.int .i64 a0.1)), (.v (.int .i64 a0.2.1)), (.v (.int .i64 a0.2.2.1)), (.v (.int .i64 a0.2.2.2.1)), (.bl a0.2.2.2.2.1), (.v (.int .i64 a0.2.2.2.2.2.1))]), (.tree ty_BoardEvent a1)] (leHk h [])) : impl_RunPlatform.S ar h (impl_RunPlatform.res a0 a1 y) (impl_RunPlatform.out a0 a1 y) := ⟨a0, a1, y, H, (args_ok h0).1, (args_ok h0).2, rfl, rfl⟩
set_option maxHeartbeats 100000000 in
set_option maxRecDepth 100000 in
theorem impl_RunPlatform.spec (a0 : Platform) (a1 : (List BoardEvent)) (y : Platform × Int × Bool) (H : impl_RunPlatform a0 a1 = some y) : Spec Tryd.prog 34 [(.agg [(.v (.int .i64 a0.1)), (.v (.int .i64 a0.2.1)), (.v (.int .i64 a0.2.2.1)), (.v (.int .i64 a0.2.2.2.1)), (.bl a0.2.2.2.2.1), (.v (.int .i64 a0.2.2.2.2.2.1))]), (.tree ty_BoardEvent a1)] [] (impl_RunPlatform.res a0 a1 y) (impl_RunPlatform.out a0 a1 y) := by
  refine spec_intro (G28_ok.at tok []) (ct := [(3, some [1, 2, 4]), (9, some [2, 4, 7, 10, 21, 22, 23])]) Tryd.func34 rfl (by kernel_rfl) (by kernel_rfl) rfl ?_
  repeat' first
    | ((with_reducible refine eqg ?_); exact rfl)
    | ((with_reducible refine KOb.mk ?_); kernel_rfl)
    | ((with_reducible intro h); (repeat (first | replace H := grd_k H | replace H := out_step H (by assumption))); first | replace H := cond_t h H | replace H := cond_f h H | exact absurd h (by decide) | skip)
    | ((with_reducible refine Ob.mk ?_); first | (with_reducible rfl) | (first | ((repeat (first | (with_reducible exact grd_p H) | (replace H := grd_k H) | (replace H := out_step H (by assumption)))); done) | rfl | ((repeat (first | exact grd_p H | replace H := grd_k H | replace H := out_step H (by assumption))); done) | ((repeat (first | exact grd_p H | (have hp := grd_p H; exact hp) | replace H := grd_k H | replace H := out_step H (by assumption) | (replace H := bind_some H; obtain ⟨_, _, H⟩ := H))); done) | (repeat (first | exact grd_p H | replace H := grd_k H | replace H := out_step H (by assumption)))))
    | (with_reducible exact True.intro)
    | constructor
    | ((conv => whnf); first
        | ((with_reducible refine Ob.mk ?_); first | (with_reducible rfl) | (first | ((repeat (first | (with_reducible exact grd_p H) | (replace H := grd_k H) | (replace H := out_step H (by assumption)))); done) | rfl | ((repeat (first | exact grd_p H | replace H := grd_k H | replace H := out_step H (by assumption))); done) | ((repeat (first | exact grd_p H | (have hp := grd_p H; exact hp) | replace H := grd_k H | replace H := out_step H (by assumption) | (replace H := bind_some H; obtain ⟨_, _, H⟩ := H))); done) | (repeat (first | exact grd_p H | replace H := grd_k H | replace H := out_step H (by assumption)))))
        | ((with_reducible refine CallW.mk ?_); (repeat (first | replace H := grd_k H | replace H := out_step H (by assumption))); replace H := bind_some H; obtain ⟨y, hy, H⟩ := H; first | ((with_reducible have hz : impl_IsPlatform _ = some y := hy); clear hz; refine Exists.intro _ (Exists.intro _ ⟨impl_IsPlatform.call hy ?_, rfl, rfl, ?_⟩)) | ((with_reducible have hz : impl_Platform_step _ _ = some y := hy); clear hz; refine Exists.intro _ (Exists.intro _ ⟨impl_Platform_step.call hy ?_, rfl, rfl, ?_⟩)))
        | ((repeat (first | replace H := grd_k H | replace H := out_step H (by assumption))); refine loop_iter (G28_ok.at tok []) (ct := [(3, some [1, 2, 4]), (9, some [2, 4, 7, 10, 21, 22, 23])]) (F := (fun s1 : Int × Int × Int × Int × Int × Int × Bool × Int => ⟨sl [(2, (.loc 0 0 0)), (4, (.loc 1 0 0)), (7, (.v (.int .i64 s1.1))), (21, (.tree ty_BoardEvent a1)), (22, (.v (.int .i64 (a1.length : Int)))), (23, (.v (.int .i64 s1.2.1)))], [some (.box 42 [(.v (.int .i64 s1.2.2.1)), (.v (.int .i64 s1.2.2.2.1)), (.v (.int .i64 s1.2.2.2.2.1)), (.v (.int .i64 s1.2.2.2.2.2.1)), (.bl s1.2.2.2.2.2.2.1), (.v (.int .i64 s1.2.2.2.2.2.2.2))]), some (.box 42 [(.v (.int .i64 (0 : Int))), (.v (.int .i64 (0 : Int))), (.v (.int .i64 (0 : Int))), (.v (.int .i64 (0 : Int))), (.v (.bool false)), (.v (.int .i64 (0 : Int)))])]⟩)) (step := (fun s : Int × Int × Int × Int × Int × Int × Bool × Int => impl_RunPlatform_loop1 _ s.1 s.2.1 s.2.2.1 s.2.2.2.1 s.2.2.2.2.1 s.2.2.2.2.2.1 s.2.2.2.2.2.2.1 s.2.2.2.2.2.2.2)) _ H (by kernel_rfl) (sub_auto ?_) ?_; rotate_left; (intro s1 r v hr H); rotate_right)
        | ((repeat (first | replace H := grd_k H | replace H := out_step H (by assumption))); refine again_step H (by assumption) (sub_auto ?_))
        | ((with_reducible refine fin_mk ?_); (repeat (first | replace H := grd_k H | replace H := out_step H (by assumption))); have H := Option.some.inj H; subst H))
def G29 : Env := G28.add 34 [] impl_RunPlatform.S
theorem G29_ok : EnvOk Tryd.prog G29 := G28_ok.add ent_34 fun ar h r h1 ⟨a0, a1, y, hy, e1, e2, e3, e4⟩ => by
  subst e3 e4; exact (impl_RunPlatform.spec a0 a1 y hy).le e1 e2
attribute [local irreducible] impl_RunPlatform

noncomputable def spec_DrawMostEntering (a0 : (List Int)) : Option (Platform) :=
  ((spec_DrawIsPlatform a0).bind fun y1 => (some (y1.1, y1.2.1, y1.2.2.1, y1.2.2.2.1, y1.2.2.2.2.1, y1.2.2.2.2.2.1, ())))
def spec_DrawMostEntering.res (_ : (List Int)) (y : Platform) : AV := (.agg [(.v (.int .i64 y.1)), (.v (.int .i64 y.2.1)), (.v (.int .i64 y.2.2.1)), (.v (.int .i64 y.2.2.2.1)), (.bl y.2.2.2.2.1), (.v (.int .i64 y.2.2.2.2.2.1))])
def spec_DrawMostEntering.out (_ : (List Int)) (_ : Platform) : List (Option LB) := []
def spec_DrawMostEntering.S (ar : List AV) (h : List (Option LB)) (r : AV) (h1 : List (Option LB)) : Prop := ∃ a0 y, spec_DrawMostEntering a0 = some y ∧ leL ar [(.tree (.int .u8) a0)] ∧ leH h [] ∧ r = spec_DrawMostEntering.res a0 y ∧ h1 = spec_DrawMostEntering.out a0 y
theorem spec_DrawMostEntering.call {ar : List AV} {h : List (Option LB)} {a0 : (List Int)} {y : Platform} (H : spec_DrawMostEntering a0 = some y) (h0 : leLk ar [(.tree (.int .u8) a0)] (leHk h [])) : spec_DrawMostEntering.S ar h (spec_DrawMostEntering.res a0 y) (spec_DrawMostEntering.out a0 y) := ⟨a0, y, H, (args_ok h0).1, (args_ok h0).2, rfl, rfl⟩
set_option maxHeartbeats 100000000 in
set_option maxRecDepth 100000 in
theorem spec_DrawMostEntering.spec (a0 : (List Int)) (y : Platform) (H : spec_DrawMostEntering a0 = some y) : Spec Tryd.prog 53 [(.tree (.int .u8) a0)] [] (spec_DrawMostEntering.res a0 y) (spec_DrawMostEntering.out a0 y) := by
  refine spec_intro (G29_ok.at tok []) (ct := []) Tryd.func53 rfl (by kernel_rfl) (by kernel_rfl) rfl ?_
  repeat' first
    | ((with_reducible refine eqg ?_); exact rfl)
    | ((with_reducible refine KOb.mk ?_); kernel_rfl)
    | ((with_reducible intro h); (repeat (first | replace H := grd_k H | replace H := out_step H (by assumption))); first | replace H := cond_t h H | replace H := cond_f h H | exact absurd h (by decide) | skip)
    | ((with_reducible refine Ob.mk ?_); first | (with_reducible rfl) | (first | ((repeat (first | (with_reducible exact grd_p H) | (replace H := grd_k H) | (replace H := out_step H (by assumption)))); done) | rfl | ((repeat (first | exact grd_p H | replace H := grd_k H | replace H := out_step H (by assumption))); done) | ((repeat (first | exact grd_p H | (have hp := grd_p H; exact hp) | replace H := grd_k H | replace H := out_step H (by assumption) | (replace H := bind_some H; obtain ⟨_, _, H⟩ := H))); done) | (repeat (first | exact grd_p H | replace H := grd_k H | replace H := out_step H (by assumption)))))
    | (with_reducible exact True.intro)
    | constructor
    | ((conv => whnf); first
        | ((with_reducible refine Ob.mk ?_); first | (with_reducible rfl) | (first | ((repeat (first | (with_reducible exact grd_p H) | (replace H := grd_k H) | (replace H := out_step H (by assumption)))); done) | rfl | ((repeat (first | exact grd_p H | replace H := grd_k H | replace H := out_step H (by assumption))); done) | ((repeat (first | exact grd_p H | (have hp := grd_p H; exact hp) | replace H := grd_k H | replace H := out_step H (by assumption) | (replace H := bind_some H; obtain ⟨_, _, H⟩ := H))); done) | (repeat (first | exact grd_p H | replace H := grd_k H | replace H := out_step H (by assumption)))))
        | ((with_reducible refine CallW.mk ?_); (repeat (first | replace H := grd_k H | replace H := out_step H (by assumption))); replace H := bind_some H; obtain ⟨y, hy, H⟩ := H; first | ((with_reducible have hz : spec_DrawIsPlatform _ = some y := hy); clear hz; refine Exists.intro _ (Exists.intro _ ⟨spec_DrawIsPlatform.call hy ?_, rfl, rfl, ?_⟩)))
        | ((with_reducible refine fin_mk ?_); (repeat (first | replace H := grd_k H | replace H := out_step H (by assumption))); have H := Option.some.inj H; subst H))
def G30 : Env := G29.add 53 [] spec_DrawMostEntering.S
theorem G30_ok : EnvOk Tryd.prog G30 := G29_ok.add ent_53 fun ar h r h1 ⟨a0, y, hy, e1, e2, e3, e4⟩ => by
  subst e3 e4; exact (spec_DrawMostEntering.spec a0 y hy).le e1 e2
attribute [local irreducible] spec_DrawMostEntering

noncomputable def impl_MostEntering (a0 : Platform) : Option (Int × Bool) :=
  ((impl_IsPlatform (a0.1, a0.2.1, a0.2.2.1, a0.2.2.2.1, a0.2.2.2.2.1, a0.2.2.2.2.2.1, ())).bind fun y1 => (cond (!y1) ((some ((0 : Int), false))) ((impl_Platform_mostEntering (a0.1, a0.2.1, a0.2.2.1, a0.2.2.2.1, a0.2.2.2.2.1, a0.2.2.2.2.2.1, ())).bind fun y2 => (some (y2, true)))))
def impl_MostEntering.res (_ : Platform) (y : Int × Bool) : AV := (.tup [(.v (.int .i64 y.1)), (.bl y.2)])
def impl_MostEntering.out (_ : Platform) (_ : Int × Bool) : List (Option LB) := []
def impl_MostEntering.S (ar : List AV) (h : List (Option LB)) (r : AV) (h1 : List (Option LB)) : Prop := ∃ a0 y, impl_MostEntering a0 = some y ∧ leL ar [(.agg [(.v (.int .i64 a0.1)), (.v (.int .i64 a0.2.1)), (.v (.int .i64 a0.2.2.1)), (.v (.int .i64 a0.2.2.2.1)), (.bl a0.2.2.2.2.1), (.v (.int .i64 a0.2.2.2.2.2.1))])] ∧ leH h [] ∧ r = impl_MostEntering.res a0 y ∧ h1 = impl_MostEntering.out a0 y
theorem impl_MostEntering.call {ar : List AV} {h : List (Option LB)} {a0 : Platform} {y : Int × Bool} (H : impl_MostEntering a0 = some y) (h0 : leLk ar [(.agg [(.v (.int .i64 a0.1)), (.v (.int .i64 a0.2.1)), (.v (.int .i64 a0.2.2.1)), (.v (.int .i64 a0.2.2.2.1)), (.bl a0.2.2.2.2.1), (.v (.int .i64 a0.2.2.2.2.2.1))])] (leHk h [])) : impl_MostEntering.S ar h (impl_MostEntering.res a0 y) (impl_MostEntering.out a0 y) := ⟨a0, y, H, (args_ok h0).1, (args_ok h0).2, rfl, rfl⟩
set_option maxHeartbeats 100000000 in
set_option maxRecDepth 100000 in
theorem impl_MostEntering.spec (a0 : Platform) (y : Int × Bool) (H : impl_MostEntering a0 = some y) : Spec Tryd.prog 54 [(.agg [(.v (.int .i64 a0.1)), (.v (.int .i64 a0.2.1)), (.v (.int .i64 a0.2.2.1)), (.v (.int .i64 a0.2.2.2.1)), (.bl a0.2.2.2.2.1), (.v (.int .i64 a0.2.2.2.2.2.1))])] [] (impl_MostEntering.res a0 y) (impl_MostEntering.out a0 y) := by
  refine spec_intro (G30_ok.at tok []) (ct := []) Tryd.func54 rfl (by kernel_rfl) (by kernel_rfl) rfl ?_
  repeat' first
    | ((with_reducible refine eqg ?_); exact rfl)
    | ((with_reducible refine KOb.mk ?_); kernel_rfl)
    | ((with_reducible intro h); (repeat (first | replace H := grd_k H | replace H := out_step H (by assumption))); first | replace H := cond_t h H | replace H := cond_f h H | exact absurd h (by decide) | skip)
    | ((with_reducible refine Ob.mk ?_); first | (with_reducible rfl) | (first | ((repeat (first | (with_reducible exact grd_p H) | (replace H := grd_k H) | (replace H := out_step H (by assumption)))); done) | rfl | ((repeat (first | exact grd_p H | replace H := grd_k H | replace H := out_step H (by assumption))); done) | ((repeat (first | exact grd_p H | (have hp := grd_p H; exact hp) | replace H := grd_k H | replace H := out_step H (by assumption) | (replace H := bind_some H; obtain ⟨_, _, H⟩ := H))); done) | (repeat (first | exact grd_p H | replace H := grd_k H | replace H := out_step H (by assumption)))))
    | (with_reducible exact True.intro)
    | constructor
    | ((conv => whnf); first
        | ((with_reducible refine Ob.mk ?_); first | (with_reducible rfl) | (first | ((repeat (first | (with_reducible exact grd_p H) | (replace H := grd_k H) | (replace H := out_step H (by assumption)))); done) | rfl | ((repeat (first | exact grd_p H | replace H := grd_k H | replace H := out_step H (by assumption))); done) | ((repeat (first | exact grd_p H | (have hp := grd_p H; exact hp) | replace H := grd_k H | replace H := out_step H (by assumption) | (replace H := bind_some H; obtain ⟨_, _, H⟩ := H))); done) | (repeat (first | exact grd_p H | replace H := grd_k H | replace H := out_step H (by assumption)))))
        | ((with_reducible refine CallW.mk ?_); (repeat (first | replace H := grd_k H | replace H := out_step H (by assumption))); replace H := bind_some H; obtain ⟨y, hy, H⟩ := H; first | ((with_reducible have hz : impl_IsPlatform _ = some y := hy); clear hz; refine Exists.intro _ (Exists.intro _ ⟨impl_IsPlatform.call hy ?_, rfl, rfl, ?_⟩)) | ((with_reducible have hz : impl_Platform_mostEntering _ = some y := hy); clear hz; refine Exists.intro _ (Exists.intro _ ⟨impl_Platform_mostEntering.call hy ?_, rfl, rfl, ?_⟩)))
        | ((with_reducible refine fin_mk ?_); (repeat (first | replace H := grd_k H | replace H := out_step H (by assumption))); have H := Option.some.inj H; subst H))
def G31 : Env := G30.add 54 [] impl_MostEntering.S
theorem G31_ok : EnvOk Tryd.prog G31 := G30_ok.add ent_54 fun ar h r h1 ⟨a0, y, hy, e1, e2, e3, e4⟩ => by
  subst e3 e4; exact (impl_MostEntering.spec a0 y hy).le e1 e2
attribute [local irreducible] impl_MostEntering

noncomputable def spec_MostEntering (a0 : Platform) : Option (Int × Bool) :=
  ((spec_l14Good (a0.1, a0.2.1, a0.2.2.1, a0.2.2.2.1, a0.2.2.2.2.1, a0.2.2.2.2.2.1, ())).bind fun y1 => (cond (!y1) ((some ((0 : Int), false))) ((spec_l14Entering (a0.1, a0.2.1, a0.2.2.1, a0.2.2.2.1, a0.2.2.2.2.1, a0.2.2.2.2.2.1, ())).bind fun y2 => (some (y2, true)))))
def spec_MostEntering.res (_ : Platform) (y : Int × Bool) : AV := (.tup [(.v (.int .i64 y.1)), (.bl y.2)])
def spec_MostEntering.out (_ : Platform) (_ : Int × Bool) : List (Option LB) := []
def spec_MostEntering.S (ar : List AV) (h : List (Option LB)) (r : AV) (h1 : List (Option LB)) : Prop := ∃ a0 y, spec_MostEntering a0 = some y ∧ leL ar [(.agg [(.v (.int .i64 a0.1)), (.v (.int .i64 a0.2.1)), (.v (.int .i64 a0.2.2.1)), (.v (.int .i64 a0.2.2.2.1)), (.bl a0.2.2.2.2.1), (.v (.int .i64 a0.2.2.2.2.2.1))])] ∧ leH h [] ∧ r = spec_MostEntering.res a0 y ∧ h1 = spec_MostEntering.out a0 y
theorem spec_MostEntering.call {ar : List AV} {h : List (Option LB)} {a0 : Platform} {y : Int × Bool} (H : spec_MostEntering a0 = some y) (h0 : leLk ar [(.agg [(.v (.int .i64 a0.1)), (.v (.int .i64 a0.2.1)), (.v (.int .i64 a0.2.2.1)), (.v (.int .i64 a0.2.2.2.1)), (.bl a0.2.2.2.2.1), (.v (.int .i64 a0.2.2.2.2.2.1))])] (leHk h [])) : spec_MostEntering.S ar h (spec_MostEntering.res a0 y) (spec_MostEntering.out a0 y) := ⟨a0, y, H, (args_ok h0).1, (args_ok h0).2, rfl, rfl⟩
set_option maxHeartbeats 100000000 in
set_option maxRecDepth 100000 in
theorem spec_MostEntering.spec (a0 : Platform) (y : Int × Bool) (H : spec_MostEntering a0 = some y) : Spec Tryd.prog 55 [(.agg [(.v (.int .i64 a0.1)), (.v (.int .i64 a0.2.1)), (.v (.int .i64 a0.2.2.1)), (.v (.int .i64 a0.2.2.2.1)), (.bl a0.2.2.2.2.1), (.v (.int .i64 a0.2.2.2.2.2.1))])] [] (spec_MostEntering.res a0 y) (spec_MostEntering.out a0 y) := by
  refine spec_intro (G31_ok.at tok []) (ct := []) Tryd.func55 rfl (by kernel_rfl) (by kernel_rfl) rfl ?_
  repeat' first
    | ((with_reducible refine eqg ?_); exact rfl)
    | ((with_reducible refine KOb.mk ?_); kernel_rfl)
    | ((with_reducible intro h); (repeat (first | replace H := grd_k H | replace H := out_step H (by assumption))); first | replace H := cond_t h H | replace H := cond_f h H | exact absurd h (by decide) | skip)
    | ((with_reducible refine Ob.mk ?_); first | (with_reducible rfl) | (first | ((repeat (first | (with_reducible exact grd_p H) | (replace H := grd_k H) | (replace H := out_step H (by assumption)))); done) | rfl | ((repeat (first | exact grd_p H | replace H := grd_k H | replace H := out_step H (by assumption))); done) | ((repeat (first | exact grd_p H | (have hp := grd_p H; exact hp) | replace H := grd_k H | replace H := out_step H (by assumption) | (replace H := bind_some H; obtain ⟨_, _, H⟩ := H))); done) | (repeat (first | exact grd_p H | replace H := grd_k H | replace H := out_step H (by assumption)))))
    | (with_reducible exact True.intro)
    | constructor
    | ((conv => whnf); first
        | ((with_reducible refine Ob.mk ?_); first | (with_reducible rfl) | (first | ((repeat (first | (with_reducible exact grd_p H) | (replace H := grd_k H) | (replace H := out_step H (by assumption)))); done) | rfl | ((repeat (first | exact grd_p H | replace H := grd_k H | replace H := out_step H (by assumption))); done) | ((repeat (first | exact grd_p H | (have hp := grd_p H; exact hp) | replace H := grd_k H | replace H := out_step H (by assumption) | (replace H := bind_some H; obtain ⟨_, _, H⟩ := H))); done) | (repeat (first | exact grd_p H | replace H := grd_k H | replace H := out_step H (by assumption)))))
        | ((with_reducible refine CallW.mk ?_); (repeat (first | replace H := grd_k H | replace H := out_step H (by assumption))); replace H := bind_some H; obtain ⟨y, hy, H⟩ := H; first | ((with_reducible have hz : spec_l14Good _ = some y := hy); clear hz; refine Exists.intro _ (Exists.intro _ ⟨spec_l14Good.call hy ?_, rfl, rfl, ?_⟩)) | ((with_reducible have hz : spec_l14Entering _ = some y := hy); clear hz; refine Exists.intro _ (Exists.intro _ ⟨spec_l14Entering.call hy ?_, rfl, rfl, ?_⟩)))
        | ((with_reducible refine fin_mk ?_); (repeat (first | replace H := grd_k H | replace H := out_step H (by assumption))); have H := Option.some.inj H; subst H))
def G32 : Env := G31.add 55 [] spec_MostEntering.S
theorem G32_ok : EnvOk Tryd.prog G32 := G31_ok.add ent_55 fun ar h r h1 ⟨a0, y, hy, e1, e2, e3, e4⟩ => by
  subst e3 e4; exact (spec_MostEntering.spec a0 y hy).le e1 e2
attribute [local irreducible] spec_MostEntering

noncomputable def impl_StepPlatform (a0 : Platform) (a1 : BoardEvent) : Option (Platform × Bool) :=
  ((impl_IsPlatform (a0.1, a0.2.1, a0.2.2.1, a0.2.2.2.1, a0.2.2.2.2.1, a0.2.2.2.2.2.1, ())).bind fun y1 => (cond (!y1) ((some (((0 : Int), (0 : Int), (0 : Int), (0 : Int), false, (0 : Int), ()), false))) ((impl_Platform_step (a0.1, a0.2.1, a0.2.2.1, a0.2.2.2.1, a0.2.2.2.2.1, a0.2.2.2.2.2.1, ()) (a1.1, a1.2.1, ())).bind fun y2 => (cond (!y2.2) ((some (((0 : Int), (0 : Int), (0 : Int), (0 : Int), false, (0 : Int), ()), false))) ((some ((y2.1.1, y2.1.2.1, y2.1.2.2.1, y2.1.2.2.2.1, y2.1.2.2.2.2.1, y2.1.2.2.2.2.2.1, ()), true)))))))
def impl_StepPlatform.res (_ : Platform) (_ : BoardEvent) (y : Platform × Bool) : AV := (.tup [(.agg [(.v (.int .i64 y.1.1)), (.v (.int .i64 y.1.2.1)), (.v (.int .i64 y.1.2.2.1)), (.v (.int .i64 y.1.2.2.2.1)), (.bl y.1.2.2.2.2.1), (.v (.int .i64 y.1.2.2.2.2.2.1))]), (.bl y.2)])
def impl_StepPlatform.out (_ : Platform) (_ : BoardEvent) (_ : Platform × Bool) : List (Option LB) := []
def impl_StepPlatform.S (ar : List AV) (h : List (Option LB)) (r : AV) (h1 : List (Option LB)) : Prop := ∃ a0 a1 y, impl_StepPlatform a0 a1 = some y ∧ leL ar [(.agg [(.v (.int .i64 a0.1)), (.v (.int .i64 a0.2.1)), (.v (.int .i64 a0.2.2.1)), (.v (.int .i64 a0.2.2.2.1)), (.bl a0.2.2.2.2.1), (.v (.int .i64 a0.2.2.2.2.2.1))]), (.agg [(.v (.string a1.1)), (.v (.int .i64 a1.2.1))])] ∧ leH h [] ∧ r = impl_StepPlatform.res a0 a1 y ∧ h1 = impl_StepPlatform.out a0 a1 y
theorem impl_StepPlatform.call {ar : List AV} {h : List (Option LB)} {a0 : Platform} {a1 : BoardEvent} {y : Platform × Bool} (H : impl_StepPlatform a0 a1 = some y) (h0 : leLk ar [(.agg [(.v (.int .i64 a0.1)), (.v (.int .i64 a0.2.1)), (.v (.int .i64 a0.2.2.1)), (.v (.int .i64 a0.2.2.2.1)), (.bl a0.2.2.2.2.1), (.v (.int .i64 a0.2.2.2.2.2.1))]), (.agg [(.v (.string a1.1)), (.v (.int .i64 a1.2.1))])] (leHk h [])) : impl_StepPlatform.S ar h (impl_StepPlatform.res a0 a1 y) (impl_StepPlatform.out a0 a1 y) := ⟨a0, a1, y, H, (args_ok h0).1, (args_ok h0).2, rfl, rfl⟩
set_option maxHeartbeats 100000000 in
set_option maxRecDepth 100000 in
theorem impl_StepPlatform.spec (a0 : Platform) (a1 : BoardEvent) (y : Platform × Bool) (H : impl_StepPlatform a0 a1 = some y) : Spec Tryd.prog 29 [(.agg [(.v (.int .i64 a0.1)), (.v (.int .i64 a0.2.1)), (.v (.int .i64 a0.2.2.1)), (.v (.int .i64 a0.2.2.2.1)), (.bl a0.2.2.2.2.1), (.v (.int .i64 a0.2.2.2.2.2.1))]), (.agg [(.v (.string a1.1)), (.v (.int .i64 a1.2.1))])] [] (impl_StepPlatform.res a0 a1 y) (impl_StepPlatform.out a0 a1 y) := by
  refine spec_intro (G32_ok.at tok []) (ct := [(4, some [4, 6, 7])]) Tryd.func29 rfl (by kernel_rfl) (by kernel_rfl) rfl ?_
  repeat' first
    | ((with_reducible refine eqg ?_); exact rfl)
    | ((with_reducible refine KOb.mk ?_); kernel_rfl)
    | ((with_reducible intro h); (repeat (first | replace H := grd_k H | replace H := out_step H (by assumption))); first | replace H := cond_t h H | replace H := cond_f h H | exact absurd h (by decide) | skip)
    | ((with_reducible refine Ob.mk ?_); first | (with_reducible rfl) | (first | ((repeat (first | (with_reducible exact grd_p H) | (replace H := grd_k H) | (replace H := out_step H (by assumption)))); done) | rfl | ((repeat (first | exact grd_p H | replace H := grd_k H | replace H := out_step H (by assumption))); done) | ((repeat (first | exact grd_p H | (have hp := grd_p H; exact hp) | replace H := grd_k H | replace H := out_step H (by assumption) | (replace H := bind_some H; obtain ⟨_, _, H⟩ := H))); done) | (repeat (first | exact grd_p H | replace H := grd_k H | replace H := out_step H (by assumption)))))
    | (with_reducible exact True.intro)
    | constructor
    | ((conv => whnf); first
        | ((with_reducible refine Ob.mk ?_); first | (with_reducible rfl) | (first | ((repeat (first | (with_reducible exact grd_p H) | (replace H := grd_k H) | (replace H := out_step H (by assumption)))); done) | rfl | ((repeat (first | exact grd_p H | replace H := grd_k H | replace H := out_step H (by assumption))); done) | ((repeat (first | exact grd_p H | (have hp := grd_p H; exact hp) | replace H := grd_k H | replace H := out_step H (by assumption) | (replace H := bind_some H; obtain ⟨_, _, H⟩ := H))); done) | (repeat (first | exact grd_p H | replace H := grd_k H | replace H := out_step H (by assumption)))))
        | ((with_reducible refine CallW.mk ?_); (repeat (first | replace H := grd_k H | replace H := out_step H (by assumption))); replace H := bind_some H; obtain ⟨y, hy, H⟩ := H; first | ((with_reducible have hz : impl_IsPlatform _ = some y := hy); clear hz; refine Exists.intro _ (Exists.intro _ ⟨impl_IsPlatform.call hy ?_, rfl, rfl, ?_⟩)) | ((with_reducible have hz : impl_Platform_step _ _ = some y := hy); clear hz; refine Exists.intro _ (Exists.intro _ ⟨impl_Platform_step.call hy ?_, rfl, rfl, ?_⟩)))
        | ((with_reducible refine fin_mk ?_); (repeat (first | replace H := grd_k H | replace H := out_step H (by assumption))); have H := Option.some.inj H; subst H))
def G33 : Env := G32.add 29 [] impl_StepPlatform.S
theorem G33_ok : EnvOk Tryd.prog G33 := G32_ok.add ent_29 fun ar h r h1 ⟨a0, a1, y, hy, e1, e2, e3, e4⟩ => by
  subst e3 e4; exact (impl_StepPlatform.spec a0 a1 y hy).le e1 e2
attribute [local irreducible] impl_StepPlatform

noncomputable def spec_DrawBoardText (a0 : (List Int)) : Option (Platform) :=
  ((spec_DrawIsPlatform a0).bind fun y1 => (some (y1.1, y1.2.1, y1.2.2.1, y1.2.2.2.1, y1.2.2.2.2.1, y1.2.2.2.2.2.1, ())))
def spec_DrawBoardText.res (_ : (List Int)) (y : Platform) : AV := (.agg [(.v (.int .i64 y.1)), (.v (.int .i64 y.2.1)), (.v (.int .i64 y.2.2.1)), (.v (.int .i64 y.2.2.2.1)), (.bl y.2.2.2.2.1), (.v (.int .i64 y.2.2.2.2.2.1))])
def spec_DrawBoardText.out (_ : (List Int)) (_ : Platform) : List (Option LB) := []
def spec_DrawBoardText.S (ar : List AV) (h : List (Option LB)) (r : AV) (h1 : List (Option LB)) : Prop := ∃ a0 y, spec_DrawBoardText a0 = some y ∧ leL ar [(.tree (.int .u8) a0)] ∧ leH h [] ∧ r = spec_DrawBoardText.res a0 y ∧ h1 = spec_DrawBoardText.out a0 y
theorem spec_DrawBoardText.call {ar : List AV} {h : List (Option LB)} {a0 : (List Int)} {y : Platform} (H : spec_DrawBoardText a0 = some y) (h0 : leLk ar [(.tree (.int .u8) a0)] (leHk h [])) : spec_DrawBoardText.S ar h (spec_DrawBoardText.res a0 y) (spec_DrawBoardText.out a0 y) := ⟨a0, y, H, (args_ok h0).1, (args_ok h0).2, rfl, rfl⟩
set_option maxHeartbeats 100000000 in
set_option maxRecDepth 100000 in
theorem spec_DrawBoardText.spec (a0 : (List Int)) (y : Platform) (H : spec_DrawBoardText a0 = some y) : Spec Tryd.prog 56 [(.tree (.int .u8) a0)] [] (spec_DrawBoardText.res a0 y) (spec_DrawBoardText.out a0 y) := by
  refine spec_intro (G33_ok.at tok []) (ct := []) Tryd.func56 rfl (by kernel_rfl) (by kernel_rfl) rfl ?_
  repeat' first
    | ((with_reducible refine eqg ?_); exact rfl)
    | ((with_reducible refine KOb.mk ?_); kernel_rfl)
    | ((with_reducible intro h); (repeat (first | replace H := grd_k H | replace H := out_step H (by assumption))); first | replace H := cond_t h H | replace H := cond_f h H | exact absurd h (by decide) | skip)
    | ((with_reducible refine Ob.mk ?_); first | (with_reducible rfl) | (first | ((repeat (first | (with_reducible exact grd_p H) | (replace H := grd_k H) | (replace H := out_step H (by assumption)))); done) | rfl | ((repeat (first | exact grd_p H | replace H := grd_k H | replace H := out_step H (by assumption))); done) | ((repeat (first | exact grd_p H | (have hp := grd_p H; exact hp) | replace H := grd_k H | replace H := out_step H (by assumption) | (replace H := bind_some H; obtain ⟨_, _, H⟩ := H))); done) | (repeat (first | exact grd_p H | replace H := grd_k H | replace H := out_step H (by assumption)))))
    | (with_reducible exact True.intro)
    | constructor
    | ((conv => whnf); first
        | ((with_reducible refine Ob.mk ?_); first | (with_reducible rfl) | (first | ((repeat (first | (with_reducible exact grd_p H) | (replace H := grd_k H) | (replace H := out_step H (by assumption)))); done) | rfl | ((repeat (first | exact grd_p H | replace H := grd_k H | replace H := out_step H (by assumption))); done) | ((repeat (first | exact grd_p H | (have hp := grd_p H; exact hp) | replace H := grd_k H | replace H := out_step H (by assumption) | (replace H := bind_some H; obtain ⟨_, _, H⟩ := H))); done) | (repeat (first | exact grd_p H | replace H := grd_k H | replace H := out_step H (by assumption)))))
        | ((with_reducible refine CallW.mk ?_); (repeat (first | replace H := grd_k H | replace H := out_step H (by assumption))); replace H := bind_some H; obtain ⟨y, hy, H⟩ := H; first | ((with_reducible have hz : spec_DrawIsPlatform _ = some y := hy); clear hz; refine Exists.intro _ (Exists.intro _ ⟨spec_DrawIsPlatform.call hy ?_, rfl, rfl, ?_⟩)))
        | ((with_reducible refine fin_mk ?_); (repeat (first | replace H := grd_k H | replace H := out_step H (by assumption))); have H := Option.some.inj H; subst H))
def G34 : Env := G33.add 56 [] spec_DrawBoardText.S
theorem G34_ok : EnvOk Tryd.prog G34 := G33_ok.add ent_56 fun ar h r h1 ⟨a0, y, hy, e1, e2, e3, e4⟩ => by
  subst e3 e4; exact (spec_DrawBoardText.spec a0 y hy).le e1 e2
attribute [local irreducible] spec_DrawBoardText

noncomputable def strconv_Itoa (a0 : Int) : Option (ByteArray) :=
  (grd (-9223372036854775808 ≤ a0 ∧ a0 ≤ 9223372036854775807) ((some (itoaB a0))))
def strconv_Itoa.res (_ : Int) (y : ByteArray) : AV := (.v (.string y))
def strconv_Itoa.out (_ : Int) (_ : ByteArray) : List (Option LB) := []
def strconv_Itoa.S (ar : List AV) (h : List (Option LB)) (r : AV) (h1 : List (Option LB)) : Prop := ∃ a0 y, strconv_Itoa a0 = some y ∧ leL ar [(.v (.int .i64 a0))] ∧ leH h [] ∧ r = strconv_Itoa.res a0 y ∧ h1 = strconv_Itoa.out a0 y
theorem strconv_Itoa.call {ar : List AV} {h : List (Option LB)} {a0 : Int} {y : ByteArray} (H : strconv_Itoa a0 = some y) (h0 : leLk ar [(.v (.int .i64 a0))] (leHk h [])) : strconv_Itoa.S ar h (strconv_Itoa.res a0 y) (strconv_Itoa.out a0 y) := ⟨a0, y, H, (args_ok h0).1, (args_ok h0).2, rfl, rfl⟩
theorem strconv_Itoa.spec (a0 : Int) (y : ByteArray) (H : strconv_Itoa a0 = some y) : Spec Tryd.prog 67 [(.v (.int .i64 a0))] [] (strconv_Itoa.res a0 y) (strconv_Itoa.out a0 y) := by
  have hg := grd_p H
  have H := Option.some.inj (grd_k H)
  subst H
  exact ext_strconv_Itoa a0 hg
def G35 : Env := G34.add 67 [] strconv_Itoa.S
theorem G35_ok : EnvOk Tryd.prog G35 := G34_ok.add ent_67 fun ar h r h1 ⟨a0, y, hy, e1, e2, e3, e4⟩ => by
  subst e3 e4; exact (strconv_Itoa.spec a0 y hy).le e1 e2
attribute [local irreducible] strconv_Itoa

end Go.Proofs.YteckiilljhdkpaaDoor
