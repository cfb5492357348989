/-
  Contracts, printed by a program.
-/
import Derived.Test.YtplknllbpdookaaC10r2
namespace Go.Proofs.Ytplknllbpdookaa
open Go.RowKit
attribute [local irreducible] Ob loopwp Sub Spec Fin Again CallW CutC KOb iter joinx outm

attribute [local irreducible] laws_vBig spec_l1Cur_next spec_l1Cur_pick spec_l1Cur_among spec_l1Cur_windRule spec_l1Most spec_l1Cur_one spec_l1Cur_windState spec_l1Cur_votes spec_DrawRunWind impl_within impl_IsWindRule impl_windOk impl_allIn impl_areVotes impl_WindRule_next impl_WindRule_run impl_RunWind spec_l1In spec_l12Rule spec_l12State spec_l12Vote spec_l12Votes spec_l12Next


noncomputable def spec_l12Run_loop1 (a0 : WindRule) (a2 : (List Int)) (v7 : Int) (v8 : Int) (v9 : Int) (v10 : (List Int)) : Option (Lp (Int × Int × Int × (List Int)) ((Int × Int × (List Int)))) :=
  (cond (decide (v7 < (a2.length : Int))) (grd (0 ≤ v7 ∧ v7 < (a2.length : Int)) ((spec_l12Next (a0.1, a0.2.1, a0.2.2.1, a0.2.2.2.1, ()) (v8, v9, ()) (a2.getD v7.toNat 0)).bind fun y11 => (grd ((v10.length + [y11.1].length) * 8 ≤ 140737488355328 ∧ v10.length + [y11.1].length ≤ 140737488355328) (some (.go ((w64 (v7 + (1 : Int))), y11.1, y11.2.1, (v10 ++ [y11.1]))))))) ((some (.out (v8, v9, v10)))))
noncomputable def spec_l12Run (a0 : WindRule) (a1 : WindState) (a2 : (List Int)) : Option ((List Int) × WindState) :=
  ((iter (fun s => spec_l12Run_loop1 a0 a2 s.1 s.2.1 s.2.2.1 s.2.2.2) ((0 : Int), a1.1, a1.2.1, ([] : List Int))).bind (fun r12 => (some (r12.2.2, (r12.1, r12.2.1, ())))))
def spec_l12Run.res (_ : WindRule) (_ : WindState) (_ : (List Int)) (y : (List Int) × WindState) : AV := (.tup [(.own 0), (.agg [(.v (.int .i64 y.2.1)), (.v (.int .i64 y.2.2.1))])])
def spec_l12Run.out (_ : WindRule) (_ : WindState) (_ : (List Int)) (y : (List Int) × WindState) : List (Option LB) := [some (.arr 3 (.int .i64) y.1)]
def spec_l12Run.S (ar : List AV) (h : List (Option LB)) (r : AV) (h1 : List (Option LB)) : Prop := ∃ a0 a1 a2 y, spec_l12Run a0 a1 a2 = some y ∧ leL ar [(.agg [(.v (.int .i64 a0.1)), (.v (.int .i64 a0.2.1)), (.v (.int .i64 a0.2.2.1)), (.v (.int .i64 a0.2.2.2.1))]), (.agg [(.v (.int .i64 a1.1)), (.v (.int .i64 a1.2.1))]), (.tree (.int .i64) a2)] ∧ leH h [] ∧ r = spec_l12Run.res a0 a1 a2 y ∧ h1 = spec_l12Run.out a0 a1 a2 y
theorem spec_l12Run.call {ar : List AV} {h : List (Option LB)} {a0 : WindRule} {a1 : WindState} {a2 : (List Int)} {y : (List Int) × WindState} (H : spec_l12Run a0 a1 a2 = some y) (h0 : leLk ar [(.agg [(.v (.int .i64 a0.1)), (.v (.int .i64 a0.2.1)), (.v (.int .i64 a0.2.2.1)), (.v (.int .i64 a0.2.2.2.1))]), (.agg [(.v (.int .i64 a1.1)), (.v (.int .i64 a1.2.1))]), (.tree (.int .i64) a2)] (leHk h [])) : spec_l12Run.S ar h (spec_l12Run.res a0 a1 a2 y) (spec_l12Run.out a0 a1 a2 y) := ⟨a0, a1, a2, y, H, (args_ok h0).1, (args_ok h0).2, rfl, rfl⟩
set_option maxHeartbeats 100000000 in
set_option maxRecDepth 100000 in
theorem spec_l12Run.spec (a0 : WindRule) (a1 : WindState) (a2 : (List Int)) (y : (List Int) × WindState) (H : spec_l12Run a0 a1 a2 = some y) : Spec Try.prog 90 [(.agg [(.v (.int .i64 a0.1)), (.v (.int .i64 a0.2.1)), (.v (.int .i64 a0.2.2.1)), (.v (.int .i64 a0.2.2.2.1))]), (.agg [(.v (.int .i64 a1.1)), (.v (.int .i64 a1.2.1))]), (.tree (.int .i64) a2)] [] (spec_l12Run.res a0 a1 a2 y) (spec_l12Run.out a0 a1 a2 y) := by
  refine spec_intro (G24_ok.at tok []) (ct := [(4, some [2, 3, 4, 7, 8, 9])]) Try.func90 rfl (by kernel_rfl) (by kernel_rfl) rfl ?_
  repeat' first
    | ((with_reducible refine eqg ?_); exact rfl)
    | ((with_reducible refine KOb.mk ?_); kernel_rfl)
    | ((with_reducible intro h); (repeat (first | replace H := grd_k H | replace H := out_step H (by assumption))); first | replace H := cond_t h H | replace H := cond_f h H | exact absurd h (by decide) | skip)
    | ((with_reducible refine Ob.mk ?_); first | rfl | (repeat (first | exact grd_p H | replace H := grd_k H | replace H := out_step H (by assumption))))
    | (with_reducible exact True.intro)
    | constructor
    | ((conv => whnf); first
        | ((with_reducible refine Ob.mk ?_); first | rfl | (repeat (first | exact grd_p H | replace H := grd_k H | replace H := out_step H (by assumption))))
        | ((with_reducible refine CallW.mk ?_); (repeat (first | replace H := grd_k H | replace H := out_step H (by assumption))); replace H := bind_some H; obtain ⟨y, hy, H⟩ := H; first | ((with_reducible have hz : spec_l12Next _ _ _ = some y := hy); clear hz; refine Exists.intro _ (Exists.intro _ ⟨spec_l12Next.call hy ?_, rfl, rfl, ?_⟩)))
        | ((repeat (first | replace H := grd_k H | replace H := out_step H (by assumption))); refine loop_iter (G24_ok.at tok []) (ct := [(4, some [2, 3, 4, 7, 8, 9])]) (F := (fun s1 : Int × Int × Int × (List Int) => ⟨sl [(2, (.tree (.int .i64) a2)), (3, (.loc 0 0 0)), (4, (.loc 1 0 0)), (7, (.loc 2 0 0)), (8, (.own 3)), (9, (.v (.int .i64 s1.1)))], [some (.box 27 [(.v (.int .i64 a0.1)), (.v (.int .i64 a0.2.1)), (.v (.int .i64 a0.2.2.1)), (.v (.int .i64 a0.2.2.2.1))]), some (.box 36 [(.v (.int .i64 s1.2.1)), (.v (.int .i64 s1.2.2.1))]), some (.box 36 [(.v (.int .i64 (0 : Int))), (.v (.int .i64 (0 : Int)))]), some (.arr 3 (.int .i64) s1.2.2.2)]⟩)) (step := (fun s : Int × Int × Int × (List Int) => spec_l12Run_loop1 _ _ s.1 s.2.1 s.2.2.1 s.2.2.2)) _ H (by kernel_rfl) (sub_auto ?_) ?_; rotate_left; (intro s1 r v hr H); rotate_right)
        | ((repeat (first | replace H := grd_k H | replace H := out_step H (by assumption))); refine again_step H (by assumption) (sub_auto ?_))
        | ((with_reducible refine fin_mk ?_); (repeat (first | replace H := grd_k H | replace H := out_step H (by assumption))); have H := Option.some.inj H; subst H))
def G25 : Env := G24.add 90 [] spec_l12Run.S
theorem G25_ok : EnvOk Try.prog G25 := G24_ok.add ent_90 fun ar h r h1 ⟨a0, a1, a2, y, hy, e1, e2, e3, e4⟩ => by
  subst e3 e4; exact (spec_l12Run.spec a0 a1 a2 y hy).le e1 e2
attribute [local irreducible] spec_l12Run

end Go.Proofs.Ytplknllbpdookaa
