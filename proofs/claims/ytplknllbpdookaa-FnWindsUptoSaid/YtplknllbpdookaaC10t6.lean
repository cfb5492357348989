/-
  Contracts, printed by a program.
-/
import Derived.Test.YtplknllbpdookaaC10t5
namespace Go.Proofs.Ytplknllbpdookaa
open Go.RowKit
attribute [local irreducible] Ob loopwp Sub Spec Fin Again CallW CutC KOb iter joinx outm

attribute [local irreducible] laws_vBig spec_l1Cur_next spec_l1Cur_pick spec_l1Cur_among spec_l1Cur_windRule spec_l1Most spec_l1Cur_one spec_l1Cur_windState spec_l1Cur_votes spec_DrawRunWind impl_within impl_IsWindRule impl_windOk impl_allIn impl_areVotes impl_WindRule_next impl_WindRule_run impl_RunWind spec_l1In spec_l12Rule spec_l12State spec_l12Vote spec_l12Votes spec_l12Next spec_l12Run spec_RunWind laws_vInts spec_IsWindRule impl_NextWind

noncomputable def impl_TimeStopped_loop1  (v10 : Int) (v11 : Int) (v12 : Int) (v13 : (List Int)) : Option (Lp (Int × Int × Int × (List Int)) ((Int))) :=
  (cond (decide (v12 < v11)) (grd (0 ≤ v12 ∧ v12 < (v13.length : Int)) (cond (decide ((v13.getD v12.toNat 0) = (2 : Int))) (some (.go ((w64 (v10 + (1 : Int))), v11, (w64 (v12 + (1 : Int))), v13))) (some (.go (v10, v11, (w64 (v12 + (1 : Int))), v13))))) ((some (.out v10))))
noncomputable def impl_TimeStopped (a0 : WindRule) (a1 : (List Int)) : Option (Int × Bool) :=
  ((impl_IsWindRule (a0.1, a0.2.1, a0.2.2.1, a0.2.2.2.1, ())).bind fun y1 => (cond (!y1) ((some ((0 : Int), false))) ((impl_areVotes a1).bind fun y2 => (cond (!y2) ((some ((0 : Int), false))) ((impl_WindRule_run (a0.1, a0.2.1, a0.2.2.1, a0.2.2.2.1, ()) ((0 : Int), (0 : Int), ()) a1).bind fun y3 => ((iter (fun s => impl_TimeStopped_loop1 s.1 s.2.1 s.2.2.1 s.2.2.2) ((0 : Int), (y3.1.length : Int), (0 : Int), y3.1)).bind (fun r14 => (some (r14, true)))))))))
def impl_TimeStopped.res (_ : WindRule) (_ : (List Int)) (y : Int × Bool) : AV := (.tup [(.v (.int .i64 y.1)), (.bl y.2)])
def impl_TimeStopped.out (_ : WindRule) (_ : (List Int)) (_ : Int × Bool) : List (Option LB) := []
def impl_TimeStopped.S (ar : List AV) (h : List (Option LB)) (r : AV) (h1 : List (Option LB)) : Prop := ∃ a0 a1 y, impl_TimeStopped a0 a1 = some y ∧ leL ar [(.agg [(.v (.int .i64 a0.1)), (.v (.int .i64 a0.2.1)), (.v (.int .i64 a0.2.2.1)), (.v (.int .i64 a0.2.2.2.1))]), (.tree (.int .i64) a1)] ∧ leH h [] ∧ r = impl_TimeStopped.res a0 a1 y ∧ h1 = impl_TimeStopped.out a0 a1 y
theorem impl_TimeStopped.call {ar : List AV} {h : List (Option LB)} {a0 : WindRule} {a1 : (List Int)} {y : Int × Bool} (H : impl_TimeStopped a0 a1 = some y) (h0 : leLk ar [(.agg [(.v (.int .i64 a0.1)), (.v (.int .i64 a0.2.1)), (.v (.int .i64 a0.2.2.1)), (.v (.int .i64 a0.2.2.2.1))]), (.tree (.int .i64) a1)] (leHk h [])) : impl_TimeStopped.S ar h (impl_TimeStopped.res a0 a1 y) (impl_TimeStopped.out a0 a1 y) := ⟨a0, a1, y, H, (args_ok h0).1, (args_ok h0).2, rfl, rfl⟩
set_option maxHeartbeats 100000000 in
set_option maxRecDepth 100000 in
theorem impl_TimeStopped.spec (a0 : WindRule) (a1 : (List Int)) (y : Int × Bool) (H : impl_TimeStopped a0 a1 = some y) : Spec Try.prog 18 [(.agg [(.v (.int .i64 a0.1)), (.v (.int .i64 a0.2.1)), (.v (.int .i64 a0.2.2.1)), (.v (.int .i64 a0.2.2.2.1))]), (.tree (.int .i64) a1)] [] (impl_TimeStopped.res a0 a1 y) (impl_TimeStopped.out a0 a1 y) := by
  refine spec_intro (G29_ok.at tok []) (ct := [(4, some [6])]) Try.func18 rfl (by kernel_rfl) (by kernel_rfl) rfl ?_
  repeat' first
    | ((with_reducible refine eqg ?_); exact rfl)
    | ((with_reducible refine KOb.mk ?_); kernel_rfl)
    | ((with_reducible intro h); (repeat (first | replace H := grd_k H | replace H := out_step H (by assumption))); first | replace H := cond_t h H | replace H := cond_f h H | exact absurd h (by decide) | skip)
    | ((with_reducible refine Ob.mk ?_); first | rfl | (repeat (first | exact grd_p H | replace H := grd_k H | replace H := out_step H (by assumption))))
    | (with_reducible exact True.intro)
    | constructor
    | ((conv => whnf); first
        | ((with_reducible refine Ob.mk ?_); first | rfl | (repeat (first | exact grd_p H | replace H := grd_k H | replace H := out_step H (by assumption))))
        | ((with_reducible refine CallW.mk ?_); (repeat (first | replace H := grd_k H | replace H := out_step H (by assumption))); replace H := bind_some H; obtain ⟨y, hy, H⟩ := H; first | ((with_reducible have hz : impl_IsWindRule _ = some y := hy); clear hz; refine Exists.intro _ (Exists.intro _ ⟨impl_IsWindRule.call hy ?_, rfl, rfl, ?_⟩)) | ((with_reducible have hz : impl_areVotes _ = some y := hy); clear hz; refine Exists.intro _ (Exists.intro _ ⟨impl_areVotes.call hy ?_, rfl, rfl, ?_⟩)) | ((with_reducible have hz : impl_WindRule_run _ _ _ = some y := hy); clear hz; refine Exists.intro _ (Exists.intro _ ⟨impl_WindRule_run.call hy ?_, rfl, rfl, ?_⟩)))
        | ((repeat (first | replace H := grd_k H | replace H := out_step H (by assumption))); refine loop_iter (G29_ok.at tok []) (ct := [(4, some [6])]) (F := (fun s1 : Int × Int × Int × (List Int) => ⟨sl [(8, (.v (.int .i64 s1.1))), (26, (.own 0)), (27, (.v (.int .i64 s1.2.1))), (28, (.v (.int .i64 s1.2.2.1)))], [some (.arr 3 (.int .i64) s1.2.2.2)]⟩)) (step := (fun s : Int × Int × Int × (List Int) => impl_TimeStopped_loop1 s.1 s.2.1 s.2.2.1 s.2.2.2)) _ H (by kernel_rfl) (sub_auto ?_) ?_; rotate_left; (intro s1 r v hr H); rotate_right)
        | ((repeat (first | replace H := grd_k H | replace H := out_step H (by assumption))); refine again_step H (by assumption) (sub_auto ?_))
        | ((with_reducible refine fin_mk ?_); (repeat (first | replace H := grd_k H | replace H := out_step H (by assumption))); have H := Option.some.inj H; subst H))
def G30 : Env := G29.add 18 [] impl_TimeStopped.S
theorem G30_ok : EnvOk Try.prog G30 := G29_ok.add ent_18 fun ar h r h1 ⟨a0, a1, y, hy, e1, e2, e3, e4⟩ => by
  subst e3 e4; exact (impl_TimeStopped.spec a0 a1 y hy).le e1 e2
attribute [local irreducible] impl_TimeStopped

end Go.Proofs.Ytplknllbpdookaa
