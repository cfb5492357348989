/-
  Contracts, printed by a program.
-/
import Derived.Test.YtplknllbpdookaaC10t7
namespace Go.Proofs.Ytplknllbpdookaa
open Go.RowKit
attribute [local irreducible] Ob loopwp Sub Spec Fin Again CallW CutC KOb iter joinx outm

attribute [local irreducible] laws_vBig spec_l1Cur_next spec_l1Cur_pick spec_l1Cur_among spec_l1Cur_windRule spec_l1Most spec_l1Cur_one spec_l1Cur_windState spec_l1Cur_votes spec_DrawRunWind impl_within impl_IsWindRule impl_windOk impl_allIn impl_areVotes impl_WindRule_next impl_WindRule_run impl_RunWind spec_l1In spec_l12Rule spec_l12State spec_l12Vote spec_l12Votes spec_l12Next spec_l12Run spec_RunWind laws_vInts spec_IsWindRule impl_NextWind impl_TimeStopped spec_DrawNextWind

noncomputable def spec_NextWind (a0 : WindRule) (a1 : WindState) (a2 : Int) : Option (WindState × Bool) :=
  ((spec_l12State (a0.1, a0.2.1, a0.2.2.1, a0.2.2.2.1, ()) (a1.1, a1.2.1, ())).bind fun y1 => (cond (!y1) ((some (((0 : Int), (0 : Int), ()), false))) ((spec_l12Vote a2).bind fun y2 => (cond (!y2) ((some (((0 : Int), (0 : Int), ()), false))) ((spec_l12Next (a0.1, a0.2.1, a0.2.2.1, a0.2.2.2.1, ()) (a1.1, a1.2.1, ()) a2).bind fun y3 => (some ((y3.1, y3.2.1, ()), true)))))))
def spec_NextWind.res (_ : WindRule) (_ : WindState) (_ : Int) (y : WindState × Bool) : AV := (.tup [(.agg [(.v (.int .i64 y.1.1)), (.v (.int .i64 y.1.2.1))]), (.bl y.2)])
def spec_NextWind.out (_ : WindRule) (_ : WindState) (_ : Int) (_ : WindState × Bool) : List (Option LB) := []
def spec_NextWind.S (ar : List AV) (h : List (Option LB)) (r : AV) (h1 : List (Option LB)) : Prop := ∃ a0 a1 a2 y, spec_NextWind a0 a1 a2 = some y ∧ leL ar [(.agg [(.v (.int .i64 a0.1)), (.v (.int .i64 a0.2.1)), (.v (.int .i64 a0.2.2.1)), (.v (.int .i64 a0.2.2.2.1))]), (.agg [(.v (.int .i64 a1.1)), (.v (.int .i64 a1.2.1))]), (.v (.int .i64 a2))] ∧ leH h [] ∧ r = spec_NextWind.res a0 a1 a2 y ∧ h1 = spec_NextWind.out a0 a1 a2 y
theorem spec_NextWind.call {ar : List AV} {h : List (Option LB)} {a0 : WindRule} {a1 : WindState} {a2 : Int} {y : WindState × Bool} (H : spec_NextWind a0 a1 a2 = some y) (h0 : leLk ar [(.agg [(.v (.int .i64 a0.1)), (.v (.int .i64 a0.2.1)), (.v (.int .i64 a0.2.2.1)), (.v (.int .i64 a0.2.2.2.1))]), (.agg [(.v (.int .i64 a1.1)), (.v (.int .i64 a1.2.1))]), (.v (.int .i64 a2))] (leHk h [])) : spec_NextWind.S ar h (spec_NextWind.res a0 a1 a2 y) (spec_NextWind.out a0 a1 a2 y) := ⟨a0, a1, a2, y, H, (args_ok h0).1, (args_ok h0).2, rfl, rfl⟩
set_option maxHeartbeats 100000000 in
set_option maxRecDepth 100000 in
theorem spec_NextWind.spec (a0 : WindRule) (a1 : WindState) (a2 : Int) (y : WindState × Bool) (H : spec_NextWind a0 a1 a2 = some y) : Spec Try.prog 51 [(.agg [(.v (.int .i64 a0.1)), (.v (.int .i64 a0.2.1)), (.v (.int .i64 a0.2.2.1)), (.v (.int .i64 a0.2.2.2.1))]), (.agg [(.v (.int .i64 a1.1)), (.v (.int .i64 a1.2.1))]), (.v (.int .i64 a2))] [] (spec_NextWind.res a0 a1 a2 y) (spec_NextWind.out a0 a1 a2 y) := by
  refine spec_intro (G31_ok.at tok []) (ct := [(3, some [2, 3, 4, 6])]) Try.func51 rfl (by kernel_rfl) (by kernel_rfl) rfl ?_
  repeat' first
    | ((with_reducible refine eqg ?_); exact rfl)
    | ((with_reducible refine KOb.mk ?_); kernel_rfl)
    | ((with_reducible intro h); (repeat (first | replace H := grd_k H | replace H := out_step H (by assumption))); first | replace H := cond_t h H | replace H := cond_f h H | exact absurd h (by decide) | skip)
    | ((with_reducible refine Ob.mk ?_); first | rfl | (repeat (first | exact grd_p H | replace H := grd_k H | replace H := out_step H (by assumption))))
    | (with_reducible exact True.intro)
    | constructor
    | ((conv => whnf); first
        | ((with_reducible refine Ob.mk ?_); first | rfl | (repeat (first | exact grd_p H | replace H := grd_k H | replace H := out_step H (by assumption))))
        | ((with_reducible refine CallW.mk ?_); (repeat (first | replace H := grd_k H | replace H := out_step H (by assumption))); replace H := bind_some H; obtain ⟨y, hy, H⟩ := H; first | ((with_reducible have hz : spec_l12State _ _ = some y := hy); clear hz; refine Exists.intro _ (Exists.intro _ ⟨spec_l12State.call hy ?_, rfl, rfl, ?_⟩)) | ((with_reducible have hz : spec_l12Vote _ = some y := hy); clear hz; refine Exists.intro _ (Exists.intro _ ⟨spec_l12Vote.call hy ?_, rfl, rfl, ?_⟩)) | ((with_reducible have hz : spec_l12Next _ _ _ = some y := hy); clear hz; refine Exists.intro _ (Exists.intro _ ⟨spec_l12Next.call hy ?_, rfl, rfl, ?_⟩)))
        | ((with_reducible refine fin_mk ?_); (repeat (first | replace H := grd_k H | replace H := out_step H (by assumption))); have H := Option.some.inj H; subst H))
def G32 : Env := G31.add 51 [] spec_NextWind.S
theorem G32_ok : EnvOk Try.prog G32 := G31_ok.add ent_51 fun ar h r h1 ⟨a0, a1, a2, y, hy, e1, e2, e3, e4⟩ => by
  subst e3 e4; exact (spec_NextWind.spec a0 a1 a2 y hy).le e1 e2
attribute [local irreducible] spec_NextWind

end Go.Proofs.Ytplknllbpdookaa
