/-
  Contracts, printed by a program.
-/
import Derived.Test.YtplknllbpdookaaC10t6
namespace Go.Proofs.Ytplknllbpdookaa
open Go.RowKit
attribute [local irreducible] Ob loopwp Sub Spec Fin Again CallW CutC KOb iter joinx outm

attribute [local irreducible] laws_vBig spec_l1Cur_next spec_l1Cur_pick spec_l1Cur_among spec_l1Cur_windRule spec_l1Most spec_l1Cur_one spec_l1Cur_windState spec_l1Cur_votes spec_DrawRunWind impl_within impl_IsWindRule impl_windOk impl_allIn impl_areVotes impl_WindRule_next impl_WindRule_run impl_RunWind spec_l1In spec_l12Rule spec_l12State spec_l12Vote spec_l12Votes spec_l12Next spec_l12Run spec_RunWind laws_vInts spec_IsWindRule impl_NextWind impl_TimeStopped

noncomputable def spec_DrawNextWind (a0 : (List Int)) : Option (WindRule × WindState × Int) :=
  ((spec_l1Cur_windRule (a0, (0 : Int), (0 : Int), ())).bind fun y1 => ((spec_l1Cur_windState (y1.2.1, y1.2.2.1, y1.2.2.2.1, ()) (y1.1.1, y1.1.2.1, y1.1.2.2.1, y1.1.2.2.2.1, ())).bind fun y2 => ((spec_l1Cur_among (y2.2.1, y2.2.2.1, y2.2.2.2.1, ()) [(0 : Int), (4 : Int), (7 : Int), (9 : Int), (10 : Int), (12 : Int), (14 : Int), (15 : Int), (16 : Int), (18 : Int), (20 : Int), (60 : Int), (61 : Int), ((-1) : Int)]).bind fun y3 => (some ((y1.1.1, y1.1.2.1, y1.1.2.2.1, y1.1.2.2.2.1, ()), (y2.1.1, y2.1.2.1, ()), y3.1)))))
def spec_DrawNextWind.res (_ : (List Int)) (y : WindRule × WindState × Int) : AV := (.tup [(.agg [(.v (.int .i64 y.1.1)), (.v (.int .i64 y.1.2.1)), (.v (.int .i64 y.1.2.2.1)), (.v (.int .i64 y.1.2.2.2.1))]), (.agg [(.v (.int .i64 y.2.1.1)), (.v (.int .i64 y.2.1.2.1))]), (.v (.int .i64 y.2.2))])
def spec_DrawNextWind.out (_ : (List Int)) (_ : WindRule × WindState × Int) : List (Option LB) := []
def spec_DrawNextWind.S (ar : List AV) (h : List (Option LB)) (r : AV) (h1 : List (Option LB)) : Prop := ∃ a0 y, spec_DrawNextWind a0 = some y ∧ leL ar [(.tree (.int .u8) a0)] ∧ leH h [] ∧ r = spec_DrawNextWind.res a0 y ∧ h1 = spec_DrawNextWind.out a0 y
theorem spec_DrawNextWind.call {ar : List AV} {h : List (Option LB)} {a0 : (List Int)} {y : WindRule × WindState × Int} (H : spec_DrawNextWind a0 = some y) (h0 : leLk ar [(.tree (.int .u8) a0)] (leHk h [])) : spec_DrawNextWind.S ar h (spec_DrawNextWind.res a0 y) (spec_DrawNextWind.out a0 y) := ⟨a0, y, H, (args_ok h0).1, (args_ok h0).2, rfl, rfl⟩
set_option maxHeartbeats 100000000 in
set_option maxRecDepth 100000 in
theorem spec_DrawNextWind.spec (a0 : (List Int)) (y : WindRule × WindState × Int) (H : spec_DrawNextWind a0 = some y) : Spec Try.prog 50 [(.tree (.int .u8) a0)] [] (spec_DrawNextWind.res a0 y) (spec_DrawNextWind.out a0 y) := by
  refine spec_intro (G30_ok.at tok []) (ct := []) Try.func50 rfl (by kernel_rfl) (by kernel_rfl) rfl ?_
  repeat' first
    | ((with_reducible refine eqg ?_); exact rfl)
    | ((with_reducible refine KOb.mk ?_); kernel_rfl)
    | ((with_reducible intro h); (repeat (first | replace H := grd_k H | replace H := out_step H (by assumption))); first | replace H := cond_t h H | replace H := cond_f h H | exact absurd h (by decide) | skip)
    | ((with_reducible refine Ob.mk ?_); first | rfl | (repeat (first | exact grd_p H | replace H := grd_k H | replace H := out_step H (by assumption))))
    | (with_reducible exact True.intro)
    | constructor
    | ((conv => whnf); first
        | ((with_reducible refine Ob.mk ?_); first | rfl | (repeat (first | exact grd_p H | replace H := grd_k H | replace H := out_step H (by assumption))))
        | ((with_reducible refine CallW.mk ?_); (repeat (first | replace H := grd_k H | replace H := out_step H (by assumption))); replace H := bind_some H; obtain ⟨y, hy, H⟩ := H; first | ((with_reducible have hz : spec_l1Cur_windRule _ = some y := hy); clear hz; refine Exists.intro _ (Exists.intro _ ⟨spec_l1Cur_windRule.call hy ?_, rfl, rfl, ?_⟩)) | ((with_reducible have hz : spec_l1Cur_windState _ _ = some y := hy); clear hz; refine Exists.intro _ (Exists.intro _ ⟨spec_l1Cur_windState.call hy ?_, rfl, rfl, ?_⟩)) | ((with_reducible have hz : spec_l1Cur_among _ _ = some y := hy); clear hz; refine Exists.intro _ (Exists.intro _ ⟨spec_l1Cur_among.call hy ?_, rfl, rfl, ?_⟩)))
        | ((with_reducible refine fin_mk ?_); (repeat (first | replace H := grd_k H | replace H := out_step H (by assumption))); have H := Option.some.inj H; subst H))
def G31 : Env := G30.add 50 [] spec_DrawNextWind.S
theorem G31_ok : EnvOk Try.prog G31 := G30_ok.add ent_50 fun ar h r h1 ⟨a0, y, hy, e1, e2, e3, e4⟩ => by
  subst e3 e4; exact (spec_DrawNextWind.spec a0 y hy).le e1 e2
attribute [local irreducible] spec_DrawNextWind

end Go.Proofs.Ytplknllbpdookaa
