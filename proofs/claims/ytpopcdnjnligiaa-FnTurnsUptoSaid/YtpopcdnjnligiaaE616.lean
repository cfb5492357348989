/-
  Contracts, printed by a program.
-/
import Derived.Test.YtpopcdnjnligiaaE615
namespace Go.Proofs.Ytpopcdnjnligiaa
open Go.RowKit
attribute [local irreducible] Ob loopwp Sub Spec Fin Again CallW CutC KOb iter joinx outm

attribute [local irreducible] laws_vBig spec_l1Cur_next spec_l1Cur_pick spec_l1Cur_among spec_l1In spec_l25Slot spec_l25Good spec_NewRopeway spec_l25Open spec_l1Cur_one spec_l1Cur_ropeStep spec_l25Step spec_l25Own spec_l25Find spec_l25Rope spec_l25Station spec_l25People spec_l25Make spec_StepRopeway spec_l1Cur_ropeStep_i1 spec_l1Cur_ropeway spec_DrawTurnsTo impl_within

noncomputable def impl_Ropeway_isStation (a0 : Ropeway) (a1 : Int) : Option (Bool) :=
  (cond (decide (a1 = (0 : Int))) ((some true)) (grd ((2 : Int) ≠ 0) ((some (decide (a1 = (w64 (Int.tdiv (a0.2.1.length : Int) (2 : Int)))))))))
def impl_Ropeway_isStation.res (_ : Ropeway) (_ : Int) (y : Bool) : AV := (.bl y)
def impl_Ropeway_isStation.out (_ : Ropeway) (_ : Int) (_ : Bool) : List (Option LB) := []
def impl_Ropeway_isStation.S (ar : List AV) (h : List (Option LB)) (r : AV) (h1 : List (Option LB)) : Prop := ∃ a0 a1 y, impl_Ropeway_isStation a0 a1 = some y ∧ leL ar [(.agg [(.v (.int .i64 a0.1)), (.tree ty_Slot a0.2.1), (.v (.int .i64 a0.2.2.1)), (.v (.int .i64 a0.2.2.2.1)), (.v (.int .i64 a0.2.2.2.2.1))]), (.v (.int .i64 a1))] ∧ leH h [] ∧ r = impl_Ropeway_isStation.res a0 a1 y ∧ h1 = impl_Ropeway_isStation.out a0 a1 y
theorem impl_Ropeway_isStation.call {ar : List AV} {h : List (Option LB)} {a0 : Ropeway} {a1 : Int} {y : Bool} (H : impl_Ropeway_isStation a0 a1 = some y) (h0 : leLk ar [(.agg [(.v (.int .i64 a0.1)), (.tree ty_Slot a0.2.1), (.v (.int .i64 a0.2.2.1)), (.v (.int .i64 a0.2.2.2.1)), (.v (.int .i64 a0.2.2.2.2.1))]), (.v (.int .i64 a1))] (leHk h [])) : impl_Ropeway_isStation.S ar h (impl_Ropeway_isStation.res a0 a1 y) (impl_Ropeway_isStation.out a0 a1 y) := ⟨a0, a1, y, H, (args_ok h0).1, (args_ok h0).2, rfl, rfl⟩
set_option maxHeartbeats 100000000 in
set_option maxRecDepth 100000 in
theorem impl_Ropeway_isStation.spec (a0 : Ropeway) (a1 : Int) (y : Bool) (H : impl_Ropeway_isStation a0 a1 = some y) : Spec Try.prog 94 [(.agg [(.v (.int .i64 a0.1)), (.tree ty_Slot a0.2.1), (.v (.int .i64 a0.2.2.1)), (.v (.int .i64 a0.2.2.2.1)), (.v (.int .i64 a0.2.2.2.2.1))]), (.v (.int .i64 a1))] [] (impl_Ropeway_isStation.res a0 a1 y) (impl_Ropeway_isStation.out a0 a1 y) := by
  refine spec_intro (G23_ok.at tok []) (ct := []) Try.func94 rfl (by kernel_rfl) (by kernel_rfl) rfl ?_
  repeat' first
    | ((with_reducible refine eqg ?_); exact rfl)
    | ((with_reducible refine KOb.mk ?_); kernel_rfl)
    | ((with_reducible intro h); (repeat (first | replace H := grd_k H | replace H := out_step H (by assumption))); first | replace H := cond_t h H | replace H := cond_f h H | exact absurd h (by decide) | skip)
    | ((with_reducible refine Ob.mk ?_); first | (with_reducible rfl) | (first | ((repeat (first | (with_reducible exact grd_p H) | (replace H := grd_k H) | (replace H := out_step H (by assumption)))); done) | rfl | ((repeat (first | exact grd_p H | replace H := grd_k H | replace H := out_step H (by assumption))); done) | ((repeat (first | exact grd_p H | (have hp := grd_p H; exact hp) | replace H := grd_k H | replace H := out_step H (by assumption) | (replace H := bind_some H; obtain ⟨_, _, H⟩ := H))); done) | (repeat (first | exact grd_p H | replace H := grd_k H | replace H := out_step H (by assumption)))))
    | (with_reducible exact True.intro)
    | ((conv => whnf); first
        | (with_reducible refine And.intro ?_ ?_)
        | (with_reducible exact True.intro)
        | ((with_reducible refine Ob.mk ?_); first | (with_reducible rfl) | (first | ((repeat (first | (with_reducible exact grd_p H) | (replace H := grd_k H) | (replace H := out_step H (by assumption)))); done) | rfl | ((repeat (first | exact grd_p H | replace H := grd_k H | replace H := out_step H (by assumption))); done) | ((repeat (first | exact grd_p H | (have hp := grd_p H; exact hp) | replace H := grd_k H | replace H := out_step H (by assumption) | (replace H := bind_some H; obtain ⟨_, _, H⟩ := H))); done) | (repeat (first | exact grd_p H | replace H := grd_k H | replace H := out_step H (by assumption)))))
        | ((with_reducible refine fin_mk ?_); (repeat (first | replace H := grd_k H | replace H := out_step H (by assumption))); have H := Option.some.inj H; subst H))
    | constructor
def G24 : Env := G23.add 94 [] impl_Ropeway_isStation.S
theorem G24_ok : EnvOk Try.prog G24 := G23_ok.add ent_94 fun ar h r h1 ⟨a0, a1, y, hy, e1, e2, e3, e4⟩ => by
  subst e3 e4; exact (impl_Ropeway_isStation.spec a0 a1 y hy).le e1 e2
attribute [local irreducible] impl_Ropeway_isStation

end Go.Proofs.Ytpopcdnjnligiaa
