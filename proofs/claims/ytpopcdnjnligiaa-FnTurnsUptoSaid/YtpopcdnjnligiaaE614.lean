/-
  Contracts, printed by a program.
-/
import Derived.Test.YtpopcdnjnligiaaE613c
namespace Go.Proofs.Ytpopcdnjnligiaa
open Go.RowKit
attribute [local irreducible] Ob loopwp Sub Spec Fin Again CallW CutC KOb iter joinx outm

attribute [local irreducible] laws_vBig spec_l1Cur_next spec_l1Cur_pick spec_l1Cur_among spec_l1In spec_l25Slot spec_l25Good spec_NewRopeway spec_l25Open spec_l1Cur_one spec_l1Cur_ropeStep spec_l25Step spec_l25Own spec_l25Find spec_l25Rope spec_l25Station spec_l25People spec_l25Make spec_StepRopeway spec_l1Cur_ropeStep_i1 spec_l1Cur_ropeway

noncomputable def spec_DrawTurnsTo (a0 : (List Int)) : Option ((Ropeway × Int × Bool) ⊕ (Ropeway × Int × Bool)) :=
  ((spec_l1Cur_ropeway (a0, (0 : Int), (0 : Int), ())).bind (Sum.elim (fun y2 => ((spec_l1Cur_among (y2.2.1, y2.2.2.1, y2.2.2.2.1, ()) [(1 : Int), (1 : Int), (2 : Int), (2 : Int), (3 : Int), (20 : Int), (0 : Int), ((-1) : Int)]).bind fun y3 => ((spec_l1Cur_one (y3.2.1, y3.2.2.1, y3.2.2.2.1, ()) (2 : Int)).bind fun y4 => (some (Sum.inl ((y2.1.1, [], y2.1.2.2.1, y2.1.2.2.2.1, y2.1.2.2.2.2.1, ()), y3.1, y4.1)))))) (fun y5 => ((spec_l1Cur_among (y5.2.1, y5.2.2.1, y5.2.2.2.1, ()) [(1 : Int), (1 : Int), (2 : Int), (2 : Int), (3 : Int), (20 : Int), (0 : Int), ((-1) : Int)]).bind fun y6 => ((spec_l1Cur_one (y6.2.1, y6.2.2.1, y6.2.2.2.1, ()) (2 : Int)).bind fun y7 => (some (Sum.inr ((y5.1.1, y5.1.2.1, y5.1.2.2.1, y5.1.2.2.2.1, y5.1.2.2.2.2.1, ()), y6.1, y7.1))))))))
def spec_DrawTurnsTo.res (_ : (List Int)) (y : (Ropeway × Int × Bool) ⊕ (Ropeway × Int × Bool)) : AV := match y with
  | (.inl y) => (.tup [(.agg [(.v (.int .i64 y.1.1)), (.v (.slice none 0 0)), (.v (.int .i64 y.1.2.2.1)), (.v (.int .i64 y.1.2.2.2.1)), (.v (.int .i64 y.1.2.2.2.2.1))]), (.v (.int .i64 y.2.1)), (.bl y.2.2)])
  | (.inr y) => (.tup [(.agg [(.v (.int .i64 y.1.1)), (.own 0), (.v (.int .i64 y.1.2.2.1)), (.v (.int .i64 y.1.2.2.2.1)), (.v (.int .i64 y.1.2.2.2.2.1))]), (.v (.int .i64 y.2.1)), (.bl y.2.2)])
def spec_DrawTurnsTo.out (_ : (List Int)) (y : (Ropeway × Int × Bool) ⊕ (Ropeway × Int × Bool)) : List (Option LB) := match y with
  | (.inl y) => []
  | (.inr y) => [some (.arr 41 ty_Slot y.1.2.1)]
def spec_DrawTurnsTo.S (ar : List AV) (h : List (Option LB)) (r : AV) (h1 : List (Option LB)) : Prop := ∃ a0 y, spec_DrawTurnsTo a0 = some y ∧ leL ar [(.tree (.int .u8) a0)] ∧ leH h [] ∧ r = spec_DrawTurnsTo.res a0 y ∧ h1 = spec_DrawTurnsTo.out a0 y
theorem spec_DrawTurnsTo.call {ar : List AV} {h : List (Option LB)} {a0 : (List Int)} {y : (Ropeway × Int × Bool) ⊕ (Ropeway × Int × Bool)} (H : spec_DrawTurnsTo a0 = some y) (h0 : leLk ar [(.tree (.int .u8) a0)] (leHk h [])) : spec_DrawTurnsTo.S ar h (spec_DrawTurnsTo.res a0 y) (spec_DrawTurnsTo.out a0 y) := ⟨a0, y, H, (args_ok h0).1, (args_ok h0).2, rfl, rfl⟩
set_option maxHeartbeats 100000000 in
set_option maxRecDepth 100000 in
theorem spec_DrawTurnsTo.spec (a0 : (List Int)) (y : (Ropeway × Int × Bool) ⊕ (Ropeway × Int × Bool)) (H : spec_DrawTurnsTo a0 = some y) : Spec Try.prog 25 [(.tree (.int .u8) a0)] [] (spec_DrawTurnsTo.res a0 y) (spec_DrawTurnsTo.out a0 y) := by
  have hlen : Nat.ble ([] : List (Option LB)).length (spec_DrawTurnsTo.out a0 y).length = true := by
    rcases y with y | y <;> rfl
  refine spec_intro (G21_ok.at tok []) (ct := []) Try.func25 rfl (by kernel_rfl) (by kernel_rfl) hlen ?_
  repeat' first
    | ((with_reducible refine eqg ?_); exact rfl)
    | ((with_reducible refine KOb.mk ?_); kernel_rfl)
    | ((with_reducible intro h); (repeat (first | replace H := grd_k H | replace H := out_step H (by assumption))); first | replace H := cond_t h H | replace H := cond_f h H | exact absurd h (by decide) | skip)
    | ((with_reducible refine Ob.mk ?_); first | (with_reducible rfl) | (first | ((repeat (first | (with_reducible exact grd_p H) | (replace H := grd_k H) | (replace H := out_step H (by assumption)))); done) | rfl | ((repeat (first | exact grd_p H | replace H := grd_k H | replace H := out_step H (by assumption))); done) | ((repeat (first | exact grd_p H | (have hp := grd_p H; exact hp) | replace H := grd_k H | replace H := out_step H (by assumption) | (replace H := bind_some H; obtain ⟨_, _, H⟩ := H))); done) | (repeat (first | exact grd_p H | replace H := grd_k H | replace H := out_step H (by assumption)))))
    | (with_reducible exact True.intro)
    | ((conv => whnf); first
        | (with_reducible refine And.intro ?_ ?_)
        | (with_reducible exact True.intro)
        | ((with_reducible refine Ob.mk ?_); first | (with_reducible rfl) | (first | ((repeat (first | (with_reducible exact grd_p H) | (replace H := grd_k H) | (replace H := out_step H (by assumption)))); done) | rfl | ((repeat (first | exact grd_p H | replace H := grd_k H | replace H := out_step H (by assumption))); done) | ((repeat (first | exact grd_p H | (have hp := grd_p H; exact hp) | replace H := grd_k H | replace H := out_step H (by assumption) | (replace H := bind_some H; obtain ⟨_, _, H⟩ := H))); done) | (repeat (first | exact grd_p H | replace H := grd_k H | replace H := out_step H (by assumption)))))
        | ((with_reducible refine CallW.mk ?_); (repeat (first | replace H := grd_k H | replace H := out_step H (by assumption))); replace H := bind_some H; obtain ⟨y, hy, H⟩ := H; first | ((with_reducible have hz : spec_l1Cur_ropeway _ = some y := hy); clear hz; rcases y with y | y <;> refine Exists.intro _ (Exists.intro _ ⟨spec_l1Cur_ropeway.call hy ?_, rfl, rfl, ?_⟩)) | ((with_reducible have hz : spec_l1Cur_among _ _ = some y := hy); clear hz; refine Exists.intro _ (Exists.intro _ ⟨spec_l1Cur_among.call hy ?_, rfl, rfl, ?_⟩)) | ((with_reducible have hz : spec_l1Cur_one _ _ = some y := hy); clear hz; refine Exists.intro _ (Exists.intro _ ⟨spec_l1Cur_one.call hy ?_, rfl, rfl, ?_⟩)))
        | ((with_reducible refine fin_mk ?_); (repeat (first | replace H := grd_k H | replace H := out_step H (by assumption))); have H := Option.some.inj H; subst H))
    | constructor
def G22 : Env := G21.add 25 [] spec_DrawTurnsTo.S
theorem G22_ok : EnvOk Try.prog G22 := G21_ok.add ent_25 fun ar h r h1 ⟨a0, y, hy, e1, e2, e3, e4⟩ => by
  subst e3 e4; exact (spec_DrawTurnsTo.spec a0 y hy).le e1 e2
attribute [local irreducible] spec_DrawTurnsTo

end Go.Proofs.Ytpopcdnjnligiaa
