/-
  Contracts, printed by a program.
-/
import Derived.Test.YtplknllbpdookaaC10t9
namespace Go.Proofs.Ytplknllbpdookaa
open Go.RowKit
attribute [local irreducible] Ob loopwp Sub Spec Fin Again CallW CutC KOb iter joinx outm

attribute [local irreducible] laws_vBig spec_l1Cur_next spec_l1Cur_pick spec_l1Cur_among spec_l1Cur_windRule spec_l1Most spec_l1Cur_one spec_l1Cur_windState spec_l1Cur_votes spec_DrawRunWind impl_within impl_IsWindRule impl_windOk impl_allIn impl_areVotes impl_WindRule_next impl_WindRule_run impl_RunWind spec_l1In spec_l12Rule spec_l12State spec_l12Vote spec_l12Votes spec_l12Next spec_l12Run spec_RunWind laws_vInts spec_IsWindRule impl_NextWind impl_TimeStopped spec_DrawNextWind spec_NextWind spec_DrawEarliestFree

noncomputable def impl_EarliestFree (a0 : WindRule) (a1 : WindState) : Option (Int × Bool) :=
  ((impl_windOk (a0.1, a0.2.1, a0.2.2.1, a0.2.2.2.1, ()) (a1.1, a1.2.1, ())).bind fun y1 => (cond (!y1) ((some ((0 : Int), false))) ((some ((w64 ((w64 (a1.1 * a0.2.2.2.1)) - a1.2.1)), true)))))
def impl_EarliestFree.res (_ : WindRule) (_ : WindState) (y : Int × Bool) : AV := (.tup [(.v (.int .i64 y.1)), (.bl y.2)])
def impl_EarliestFree.out (_ : WindRule) (_ : WindState) (_ : Int × Bool) : List (Option LB) := []
def impl_EarliestFree.S (ar : List AV) (h : List (Option LB)) (r : AV) (h1 : List (Option LB)) : Prop := ∃ a0 a1 y, impl_EarliestFree a0 a1 = some y ∧ leL ar [(.agg [(.v (.int .i64 a0.1)), (.v (.int .i64 a0.2.1)), (.v (.int .i64 a0.2.2.1)), (.v (.int .i64 a0.2.2.2.1))]), (.agg [(.v (.int .i64 a1.1)), (.v (.int .i64 a1.2.1))])] ∧ leH h [] ∧ r = impl_EarliestFree.res a0 a1 y ∧ h1 = impl_EarliestFree.out a0 a1 y
theorem impl_EarliestFree.call {ar : List AV} {h : List (Option LB)} {a0 : WindRule} {a1 : WindState} {y : Int × Bool} (H : impl_EarliestFree a0 a1 = some y) (h0 : leLk ar [(.agg [(.v (.int .i64 a0.1)), (.v (.int .i64 a0.2.1)), (.v (.int .i64 a0.2.2.1)), (.v (.int .i64 a0.2.2.2.1))]), (.agg [(.v (.int .i64 a1.1)), (.v (.int .i64 a1.2.1))])] (leHk h [])) : impl_EarliestFree.S ar h (impl_EarliestFree.res a0 a1 y) (impl_EarliestFree.out a0 a1 y) := ⟨a0, a1, y, H, (args_ok h0).1, (args_ok h0).2, rfl, rfl⟩
set_option maxHeartbeats 100000000 in
set_option maxRecDepth 100000 in
theorem impl_EarliestFree.spec (a0 : WindRule) (a1 : WindState) (y : Int × Bool) (H : impl_EarliestFree a0 a1 = some y) : Spec Try.prog 53 [(.agg [(.v (.int .i64 a0.1)), (.v (.int .i64 a0.2.1)), (.v (.int .i64 a0.2.2.1)), (.v (.int .i64 a0.2.2.2.1))]), (.agg [(.v (.int .i64 a1.1)), (.v (.int .i64 a1.2.1))])] [] (impl_EarliestFree.res a0 a1 y) (impl_EarliestFree.out a0 a1 y) := by
  refine spec_intro (G33_ok.at tok []) (ct := []) Try.func53 rfl (by kernel_rfl) (by kernel_rfl) rfl ?_
  repeat' first
    | ((with_reducible refine eqg ?_); exact rfl)
    | ((with_reducible refine KOb.mk ?_); kernel_rfl)
    | ((with_reducible intro h); (repeat (first | replace H := grd_k H | replace H := out_step H (by assumption))); first | replace H := cond_t h H | replace H := cond_f h H | exact absurd h (by decide) | skip)
    | ((with_reducible refine Ob.mk ?_); first | rfl | (repeat (first | exact grd_p H | replace H := grd_k H | replace H := out_step H (by assumption))))
    | (with_reducible exact True.intro)
    | constructor
    | ((conv => whnf); first
        | ((with_reducible refine Ob.mk ?_); first | rfl | (repeat (first | exact grd_p H | replace H := grd_k H | replace H := out_step H (by assumption))))
        | ((with_reducible refine CallW.mk ?_); (repeat (first | replace H := grd_k H | replace H := out_step H (by assumption))); replace H := bind_some H; obtain ⟨y, hy, H⟩ := H; first | ((with_reducible have hz : impl_windOk _ _ = some y := hy); clear hz; refine Exists.intro _ (Exists.intro _ ⟨impl_windOk.call hy ?_, rfl, rfl, ?_⟩)))
        | ((with_reducible refine fin_mk ?_); (repeat (first | replace H := grd_k H | replace H := out_step H (by assumption))); have H := Option.some.inj H; subst H))
def G34 : Env := G33.add 53 [] impl_EarliestFree.S
theorem G34_ok : EnvOk Try.prog G34 := G33_ok.add ent_53 fun ar h r h1 ⟨a0, a1, y, hy, e1, e2, e3, e4⟩ => by
  subst e3 e4; exact (impl_EarliestFree.spec a0 a1 y hy).le e1 e2
attribute [local irreducible] impl_EarliestFree

end Go.Proofs.Ytplknllbpdookaa
