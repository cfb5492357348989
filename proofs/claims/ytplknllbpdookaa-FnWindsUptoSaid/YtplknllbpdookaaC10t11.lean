/-
  Contracts, printed by a program.
-/
import Derived.Test.YtplknllbpdookaaC10t10
namespace Go.Proofs.Ytplknllbpdookaa
open Go.RowKit
attribute [local irreducible] Ob loopwp Sub Spec Fin Again CallW CutC KOb iter joinx outm

attribute [local irreducible] laws_vBig spec_l1Cur_next spec_l1Cur_pick spec_l1Cur_among spec_l1Cur_windRule spec_l1Most spec_l1Cur_one spec_l1Cur_windState spec_l1Cur_votes spec_DrawRunWind impl_within impl_IsWindRule impl_windOk impl_allIn impl_areVotes impl_WindRule_next impl_WindRule_run impl_RunWind spec_l1In spec_l12Rule spec_l12State spec_l12Vote spec_l12Votes spec_l12Next spec_l12Run spec_RunWind laws_vInts spec_IsWindRule impl_NextWind impl_TimeStopped spec_DrawNextWind spec_NextWind spec_DrawEarliestFree impl_EarliestFree

noncomputable def spec_EarliestFree_loop1 (a0 : WindRule) (v7 : Int) (v8 : Int) (v9 : Int) : Option (Lp (Int × Int × Int) ((Int))) :=
  (cond (decide ((0 : Int) < v8)) ((spec_l12Next (a0.1, a0.2.1, a0.2.2.1, a0.2.2.2.1, ()) (v8, v9, ()) (0 : Int)).bind fun y10 => (some (.go ((w64 (v7 + (1 : Int))), y10.1, y10.2.1)))) ((some (.out v7))))
noncomputable def spec_EarliestFree (a0 : WindRule) (a1 : WindState) : Option (Int × Bool) :=
  ((spec_l12State (a0.1, a0.2.1, a0.2.2.1, a0.2.2.2.1, ()) (a1.1, a1.2.1, ())).bind fun y1 => (cond (!y1) ((some ((0 : Int), false))) ((iter (fun s => spec_EarliestFree_loop1 a0 s.1 s.2.1 s.2.2) ((0 : Int), a1.1, a1.2.1)).bind (fun r11 => (some (r11, true))))))
def spec_EarliestFree.res (_ : WindRule) (_ : WindState) (y : Int × Bool) : AV := (.tup [(.v (.int .i64 y.1)), (.bl y.2)])
def spec_EarliestFree.out (_ : WindRule) (_ : WindState) (_ : Int × Bool) : List (Option LB) := []
def spec_EarliestFree.S (ar : List AV) (h : List (Option LB)) (r : AV) (h1 : List (Option LB)) : Prop := ∃ a0 a1 y, spec_EarliestFree a0 a1 = some y ∧ leL ar [(.agg [(.v (.int .i64 a0.1)), (.v (.int .i64 a0.2.1)), (.v (.int .i64 a0.2.2.1)), (.v (.int .i64 a0.2.2.2.1))]), (.agg [(.v (.int .i64 a1.1)), (.v (.int .i64 a1.2.1))])] ∧ leH h [] ∧ r = spec_EarliestFree.res a0 a1 y ∧ h1 = spec_EarliestFree.out a0 a1 y
theorem spec_EarliestFree.call {ar : List AV} {h : List (Option LB)} {a0 : WindRule} {a1 : WindState} {y : Int × Bool} (H : spec_EarliestFree a0 a1 = some y) (h0 : leLk ar [(.agg [(.v (.int .i64 a0.1)), (.v (.int .i64 a0.2.1)), (.v (.int .i64 a0.2.2.1)), (.v (.int .i64 a0.2.2.2.1))]), (.agg [(.v (.int .i64 a1.1)), (.v (.int .i64 a1.2.1))])] (leHk h [])) : spec_EarliestFree.S ar h (spec_EarliestFree.res a0 a1 y) (spec_EarliestFree.out a0 a1 y) := ⟨a0, a1, y, H, (args_ok h0).1, (args_ok h0).2, rfl, rfl⟩
set_option maxHeartbeats 100000000 in
set_option maxRecDepth 100000 in
theorem spec_EarliestFree.spec (a0 : WindRule) (a1 : WindState) (y : Int × Bool) (H : spec_EarliestFree a0 a1 = some y) : Spec Try.prog 54 [(.agg [(.v (.int .i64 a0.1)), (.v (.int .i64 a0.2.1)), (.v (.int .i64 a0.2.2.1)), (.v (.int .i64 a0.2.2.2.1))]), (.agg [(.v (.int .i64 a1.1)), (.v (.int .i64 a1.2.1))])] [] (spec_EarliestFree.res a0 a1 y) (spec_EarliestFree.out a0 a1 y) := by
  refine spec_intro (G34_ok.at tok []) (ct := []) Try.func54 rfl (by kernel_rfl) (by kernel_rfl) rfl ?_
  repeat' first
    | ((with_reducible refine eqg ?_); exact rfl)
    | ((with_reducible refine KOb.mk ?_); kernel_rfl)
    | ((with_reducible intro h); (repeat (first | replace H := grd_k H | replace H := out_step H (by assumption))); first | replace H := cond_t h H | replace H := cond_f h H | exact absurd h (by decide) | skip)
    | ((with_reducible refine Ob.mk ?_); first | rfl | (repeat (first | exact grd_p H | replace H := grd_k H | replace H := out_step H (by assumption))))
    | (with_reducible exact True.intro)
    | constructor
    | ((conv => whnf); first
        | ((with_reducible refine Ob.mk ?_); first | rfl | (repeat (first | exact grd_p H | replace H := grd_k H | replace H := out_step H (by assumption))))
        | ((with_reducible refine CallW.mk ?_); (repeat (first | replace H := grd_k H | replace H := out_step H (by assumption))); replace H := bind_some H; obtain ⟨y, hy, H⟩ := H; first | ((with_reducible have hz : spec_l12State _ _ = some y := hy); clear hz; refine Exists.intro _ (Exists.intro _ ⟨spec_l12State.call hy ?_, rfl, rfl, ?_⟩)) | ((with_reducible have hz : spec_l12Next _ _ _ = some y := hy); clear hz; refine Exists.intro _ (Exists.intro _ ⟨spec_l12Next.call hy ?_, rfl, rfl, ?_⟩)))
        | ((repeat (first | replace H := grd_k H | replace H := out_step H (by assumption))); refine loop_iter (G34_ok.at tok []) (ct := []) (F := (fun s1 : Int × Int × Int => ⟨sl [(2, (.loc 0 0 0)), (3, (.loc 1 0 0)), (6, (.v (.int .i64 s1.1)))], [some (.box 27 [(.v (.int .i64 a0.1)), (.v (.int .i64 a0.2.1)), (.v (.int .i64 a0.2.2.1)), (.v (.int .i64 a0.2.2.2.1))]), some (.box 36 [(.v (.int .i64 s1.2.1)), (.v (.int .i64 s1.2.2))])]⟩)) (step := (fun s : Int × Int × Int => spec_EarliestFree_loop1 _ s.1 s.2.1 s.2.2)) _ H (by kernel_rfl) (sub_auto ?_) ?_; rotate_left; (intro s1 r v hr H); rotate_right)
        | ((repeat (first | replace H := grd_k H | replace H := out_step H (by assumption))); refine again_step H (by assumption) (sub_auto ?_))
        | ((with_reducible refine fin_mk ?_); (repeat (first | replace H := grd_k H | replace H := out_step H (by assumption))); have H := Option.some.inj H; subst H))
def G35 : Env := G34.add 54 [] spec_EarliestFree.S
theorem G35_ok : EnvOk Try.prog G35 := G34_ok.add ent_54 fun ar h r h1 ⟨a0, a1, y, hy, e1, e2, e3, e4⟩ => by
  subst e3 e4; exact (spec_EarliestFree.spec a0 a1 y hy).le e1 e2
attribute [local irreducible] spec_EarliestFree

end Go.Proofs.Ytplknllbpdookaa
