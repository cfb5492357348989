/-
  Contracts, printed by a program.
-/
import Derived.Test.YtaajchikfgbecaaTy
namespace Go.Proofs.Ytaajchikfgbecaa
open Go.RowKit
attribute [local irreducible] Ob loopwp Sub Spec Fin Again CallW CutC KOb iter joinx outm

noncomputable def laws_toGripState (a0 : GripState) : Option (GripState) :=
  (some (a0.1, a0.2.1, a0.2.2.1, a0.2.2.2.1, ()))
def laws_toGripState.res (_ : GripState) (y : GripState) : AV := (.agg [(.v (.int .i64 y.1)), (.v (.int .i64 y.2.1)), (.v (.int .i64 y.2.2.1)), (.v (.int .i64 y.2.2.2.1))])
def laws_toGripState.out (_ : GripState) (_ : GripState) : List (Option LB) := []
def laws_toGripState.S (ar : List AV) (h : List (Option LB)) (r : AV) (h1 : List (Option LB)) : Prop := ∃ a0 y, laws_toGripState a0 = some y ∧ leL ar [(.agg [(.v (.int .i64 a0.1)), (.v (.int .i64 a0.2.1)), (.v (.int .i64 a0.2.2.1)), (.v (.int .i64 a0.2.2.2.1))])] ∧ leH h [] ∧ r = laws_toGripState.res a0 y ∧ h1 = laws_toGripState.out a0 y
theorem laws_toGripState.call {ar : List AV} {h : List (Option LB)} {a0 : GripState} {y : GripState} (H : laws_toGripState a0 = some y) (h0 : leLk ar [(.agg [(.v (.int .i64 a0.1)), (.v (.int .i64 a0.2.1)), (.v (.int .i64 a0.2.2.1)), (.v (.int .i64 a0.2.2.2.1))])] (leHk h [])) : laws_toGripState.S ar h (laws_toGripState.res a0 y) (laws_toGripState.out a0 y) := ⟨a0, y, H, (args_ok h0).1, (args_ok h0).2, rfl, rfl⟩
set_option maxHeartbeats 100000000 in
set_option maxRecDepth 100000 in
theorem laws_toGripState.spec (a0 : GripState) (y : GripState) (H : laws_toGripState a0 = some y) : Spec Try.prog 32 [(.agg [(.v (.int .i64 a0.1)), (.v (.int .i64 a0.2.1)), (.v (.int .i64 a0.2.2.1)), (.v (.int .i64 a0.2.2.2.1))])] [] (laws_toGripState.res a0 y) (laws_toGripState.out a0 y) := by
  refine spec_intro (G0_ok.at tok []) (ct := [(6, some [2, 3])]) Try.func32 rfl (by kernel_rfl) (by kernel_rfl) rfl ?_
  repeat' first
    | ((with_reducible refine eqg ?_); exact rfl)
    | ((with_reducible refine KOb.mk ?_); kernel_rfl)
    | ((with_reducible intro h); (repeat (first | replace H := grd_k H | replace H := out_step H (by assumption))); first | replace H := cond_t h H | replace H := cond_f h H | exact absurd h (by decide) | skip)
    | ((with_reducible refine Ob.mk ?_); first | (with_reducible rfl) | (first | ((repeat (first | (with_reducible exact grd_p H) | (replace H := grd_k H) | (replace H := out_step H (by assumption)))); done) | rfl | ((repeat (first | exact grd_p H | replace H := grd_k H | replace H := out_step H (by assumption))); done) | ((repeat (first | exact grd_p H | (have hp := grd_p H; exact hp) | replace H := grd_k H | replace H := out_step H (by assumption) | (replace H := bind_some H; obtain ⟨_, _, H⟩ := H))); done) | (repeat (first | exact grd_p H | replace H := grd_k H | replace H := out_step H (by assumption)))))
    | (with_reducible exact True.intro)
    | ((conv => whnf); first
        | (with_reducible refine And.intro ?_ ?_)
        | (with_reducible exact True.intro)
        | ((with_reducible refine Ob.mk ?_); first | (with_reducible rfl) | (first | ((repeat (first | (with_reducible exact grd_p H) | (replace H := grd_k H) | (replace H := out_step H (by assumption)))); done) | rfl | ((repeat (first | exact grd_p H | replace H := grd_k H | replace H := out_step H (by assumption))); done) | ((repeat (first | exact grd_p H | (have hp := grd_p H; exact hp) | replace H := grd_k H | replace H := out_step H (by assumption) | (replace H := bind_some H; obtain ⟨_, _, H⟩ := H))); done) | (repeat (first | exact grd_p H | replace H := grd_k H | replace H := out_step H (by assumption)))))
        | ((with_reducible refine fin_mk ?_); (repeat (first | replace H := grd_k H | replace H := out_step H (by assumption))); have H := Option.some.inj H; subst H))
    | constructor
def G1 : Env := G0.add 32 [] laws_toGripState.S
theorem G1_ok : EnvOk Try.prog G1 := G0_ok.add ent_32 fun ar h r h1 ⟨a0, y, hy, e1, e2, e3, e4⟩ => by
  subst e3 e4; exact (laws_toGripState.spec a0 y hy).le e1 e2
attribute [local irreducible] laws_toGripState

noncomputable def spec_l1In (a0 : Int) (a1 : Int) (a2 : Int) : Option (Bool) :=
  (cond (decide (a1 ≤ a0)) ((some (decide (a0 ≤ a2)))) ((some false)))
def spec_l1In.res (_ : Int) (_ : Int) (_ : Int) (y : Bool) : AV := (.bl y)
def spec_l1In.out (_ : Int) (_ : Int) (_ : Int) (_ : Bool) : List (Option LB) := []
def spec_l1In.S (ar : List AV) (h : List (Option LB)) (r : AV) (h1 : List (Option LB)) : Prop := ∃ a0 a1 a2 y, spec_l1In a0 a1 a2 = some y ∧ leL ar [(.v (.int .i64 a0)), (.v (.int .i64 a1)), (.v (.int .i64 a2))] ∧ leH h [] ∧ r = spec_l1In.res a0 a1 a2 y ∧ h1 = spec_l1In.out a0 a1 a2 y
theorem spec_l1In.call {ar : List AV} {h : List (Option LB)} {a0 : Int} {a1 : Int} {a2 : Int} {y : Bool} (H : spec_l1In a0 a1 a2 = some y) (h0 : leLk ar [(.v (.int .i64 a0)), (.v (.int .i64 a1)), (.v (.int .i64 a2))] (leHk h [])) : spec_l1In.S ar h (spec_l1In.res a0 a1 a2 y) (spec_l1In.out a0 a1 a2 y) := ⟨a0, a1, a2, y, H, (args_ok h0).1, (args_ok h0).2, rfl, rfl⟩
set_option maxHeartbeats 100000000 in
set_option maxRecDepth 100000 in
theorem spec_l1In.spec (a0 : Int) (a1 : Int) (a2 : Int) (y : Bool) (H : spec_l1In a0 a1 a2 = some y) : Spec Try.prog 54 [(.v (.int .i64 a0)), (.v (.int .i64 a1)), (.v (.int .i64 a2))] [] (spec_l1In.res a0 a1 a2 y) (spec_l1In.out a0 a1 a2 y) := by
  refine spec_intro (G1_ok.at tok []) (ct := []) Try.func54 rfl (by kernel_rfl) (by kernel_rfl) rfl ?_
  repeat' first
    | ((with_reducible refine eqg ?_); exact rfl)
    | ((with_reducible refine KOb.mk ?_); kernel_rfl)
    | ((with_reducible intro h); (repeat (first | replace H := grd_k H | replace H := out_step H (by assumption))); first | replace H := cond_t h H | replace H := cond_f h H | exact absurd h (by decide) | skip)
    | ((with_reducible refine Ob.mk ?_); first | (with_reducible rfl) | (first | ((repeat (first | (with_reducible exact grd_p H) | (replace H := grd_k H) | (replace H := out_step H (by assumption)))); done) | rfl | ((repeat (first | exact grd_p H | replace H := grd_k H | replace H := out_step H (by assumption))); done) | ((repeat (first | exact grd_p H | (have hp := grd_p H; exact hp) | replace H := grd_k H | replace H := out_step H (by assumption) | (replace H := bind_some H; obtain ⟨_, _, H⟩ := H))); done) | (repeat (first | exact grd_p H | replace H := grd_k H | replace H := out_step H (by assumption)))))
    | (with_reducible exact True.intro)
    | ((conv => whnf); first
        | (with_reducible refine And.intro ?_ ?_)
        | (with_reducible exact True.intro)
        | ((with_reducible refine Ob.mk ?_); first | (with_reducible rfl) | (first | ((repeat (first | (with_reducible exact grd_p H) | (replace H := grd_k H) | (replace H := out_step H (by assumption)))); done) | rfl | ((repeat (first | exact grd_p H | replace H := grd_k H | replace H := out_step H (by assumption))); done) | ((repeat (first | exact grd_p H | (have hp := grd_p H; exact hp) | replace H := grd_k H | replace H := out_step H (by assumption) | (replace H := bind_some H; obtain ⟨_, _, H⟩ := H))); done) | (repeat (first | exact grd_p H | replace H := grd_k H | replace H := out_step H (by assumption)))))
        | ((with_reducible refine fin_mk ?_); (repeat (first | replace H := grd_k H | replace H := out_step H (by assumption))); have H := Option.some.inj H; subst H))
    | constructor
def G2 : Env := G1.add 54 [] spec_l1In.S
theorem G2_ok : EnvOk Try.prog G2 := G1_ok.add ent_54 fun ar h r h1 ⟨a0, a1, a2, y, hy, e1, e2, e3, e4⟩ => by
  subst e3 e4; exact (spec_l1In.spec a0 a1 a2 y hy).le e1 e2
attribute [local irreducible] spec_l1In

noncomputable def spec_l21Good (a0 : GripState) : Option (Bool) :=
  ((spec_l1In a0.1 (0 : Int) (4 : Int)).bind fun y1 => (cond (!y1) ((some false)) ((spec_l1In a0.2.1 (0 : Int) (3 : Int)).bind fun y2 => (cond (!y2) ((some false)) ((spec_l1In a0.2.2.1 (0 : Int) (2000 : Int)).bind fun y3 => (cond (!y3) ((some false)) ((spec_l1In a0.2.2.2.1 (0 : Int) (3 : Int)).bind fun y4 => (cond (!y4) ((some false)) (joinx (cond (!decide (a0.1 = (2 : Int))) (cond (!decide (a0.2.2.1 = (0 : Int))) (outm ((some false))) ((some (.go ())))) ((some (.go ())))) (fun (_ : Unit) => (cond (decide (a0.2.1 = (0 : Int))) (cond (decide (a0.1 = (0 : Int))) ((some true)) ((some (decide (a0.1 = (4 : Int)))))) (cond (decide (a0.2.1 = (2 : Int))) (cond (decide (a0.1 = (2 : Int))) ((some (decide ((500 : Int) ≤ a0.2.2.1)))) ((some false))) (cond (decide (a0.2.1 = (3 : Int))) (cond (!decide (a0.1 = (4 : Int))) ((some (!decide (a0.1 = (1 : Int))))) ((some false))) ((some (!decide (a0.1 = (4 : Int))))))))))))))))))
def spec_l21Good.res (_ : GripState) (y : Bool) : AV := (.bl y)
def spec_l21Good.out (_ : GripState) (_ : Bool) : List (Option LB) := []
def spec_l21Good.S (ar : List AV) (h : List (Option LB)) (r : AV) (h1 : List (Option LB)) : Prop := ∃ a0 y, spec_l21Good a0 = some y ∧ leL ar [(.agg [(.v (.int .i64 a0.1)), (.v (.int .i64 a0.2.1)), (.v (.int .i64 a0.2.2.1)), (.v (.int .i64 a0.2.2.2.1))])] ∧ leH h [] ∧ r = spec_l21Good.res a0 y ∧ h1 = spec_l21Good.out a0 y
theorem spec_l21Good.call {ar : List AV} {h : List (Option LB)} {a0 : GripState} {y : Bool} (H : spec_l21Good a0 = some y) (h0 : leLk ar [(.agg [(.v (.int .i64 a0.1)), (.v (.int .i64 a0.2.1)), (.v (.int .i64 a0.2.2.1)), (.v (.int .i64 a0.2.2.2.1))])] (leHk h [])) : spec_l21Good.S ar h (spec_l21Good.res a0 y) (spec_l21Good.out a0 y) := ⟨a0, y, H, (args_ok h0).1, (args_ok h0).2, rfl, rfl⟩
set_option maxHeartbeats 100000000 in
set_option maxRecDepth 100000 in
theorem spec_l21Good.spec (a0 : GripState) (y : Bool) (H : spec_l21Good a0 = some y) : Spec Try.prog 56 [(.agg [(.v (.int .i64 a0.1)), (.v (.int .i64 a0.2.1)), (.v (.int .i64 a0.2.2.1)), (.v (.int .i64 a0.2.2.2.1))])] [] (spec_l21Good.res a0 y) (spec_l21Good.out a0 y) := by
  refine spec_intro (G2_ok.at tok []) (ct := [(5, none), (2, some [1, 24, 29, 30, 31, 41, 42, 43, 51, 52, 53, 61, 62, 63]), (12, some [1])]) Try.func56 rfl (by kernel_rfl) (by kernel_rfl) rfl ?_
  repeat' first
    | (with_reducible exact (outm_no H).elim)
    | ((replace H := out_step H (by assumption)); exact (outm_no H).elim)
    | ((with_reducible refine eqg ?_); exact rfl)
    | ((with_reducible refine KOb.mk ?_); kernel_rfl)
    | ((with_reducible intro h); (repeat (first | replace H := grd_k H | replace H := out_step H (by assumption) | replace H := outm_out H)); first | replace H := cond_t h H | replace H := cond_f h H | exact absurd h (by decide) | skip)
    | ((with_reducible refine Ob.mk ?_); first | (with_reducible rfl) | (first | ((repeat (first | (with_reducible exact grd_p H) | (replace H := grd_k H) | (replace H := out_step H (by assumption)) | replace H := outm_out H)); done) | rfl | ((repeat (first | exact grd_p H | replace H := grd_k H | replace H := out_step H (by assumption) | replace H := outm_out H)); done) | ((repeat (first | exact grd_p H | (have hp := grd_p H; exact hp) | replace H := grd_k H | replace H := out_step H (by assumption) | replace H := outm_out H | (replace H := bind_some H; obtain ⟨_, _, H⟩ := H))); done) | (repeat (first | exact grd_p H | replace H := grd_k H | replace H := out_step H (by assumption) | replace H := outm_out H))))
    | (with_reducible exact True.intro)
    | ((conv => whnf); first
        | (with_reducible refine And.intro ?_ ?_)
        | (with_reducible exact True.intro)
        | ((with_reducible refine Ob.mk ?_); first | (with_reducible rfl) | (first | ((repeat (first | (with_reducible exact grd_p H) | (replace H := grd_k H) | (replace H := out_step H (by assumption)) | replace H := outm_out H)); done) | rfl | ((repeat (first | exact grd_p H | replace H := grd_k H | replace H := out_step H (by assumption) | replace H := outm_out H)); done) | ((repeat (first | exact grd_p H | (have hp := grd_p H; exact hp) | replace H := grd_k H | replace H := out_step H (by assumption) | replace H := outm_out H | (replace H := bind_some H; obtain ⟨_, _, H⟩ := H))); done) | (repeat (first | exact grd_p H | replace H := grd_k H | replace H := out_step H (by assumption) | replace H := outm_out H))))
        | ((with_reducible refine CallW.mk ?_); (repeat (first | replace H := grd_k H | replace H := out_step H (by assumption) | replace H := outm_out H)); replace H := bind_some H; obtain ⟨y, hy, H⟩ := H; first | ((with_reducible have hz : spec_l1In _ _ _ = some y := hy); clear hz; refine Exists.intro _ (Exists.intro _ ⟨spec_l1In.call hy ?_, rfl, rfl, ?_⟩)))
        | ((with_reducible refine cutAt (id := 5) ?_); (repeat (first | replace H := grd_k H | replace H := out_step H (by assumption) | replace H := outm_out H)); first | (replace H := joinx_some H; rcases H with ⟨z, hz, H⟩ | H; rotate_left; (with_reducible refine CutC.no ?_); rotate_right; (refine CutC.mk (id := 5) ⟨sl [(1, (.loc 0 0 0))], [some (.box 58 [(.v (.int .i64 a0.1)), (.v (.int .i64 a0.2.1)), (.v (.int .i64 a0.2.2.1)), (.v (.int .i64 a0.2.2.2.1))])]⟩ ?_ ?_; (replace H := hz))))
        | ((repeat (first | replace H := grd_k H | replace H := out_step H (by assumption) | replace H := outm_out H)); have H := Option.some.inj H; subst H; with_reducible refine sub_auto ?_)
        | ((repeat (first | replace H := grd_k H | replace H := out_step H (by assumption) | replace H := outm_out H)); have H := go_inj H; subst H; with_reducible refine sub_auto ?_)
        | ((repeat (first | replace H := grd_k H | replace H := out_step H (by assumption) | replace H := outm_out H)); exact (go_out H).elim)
        | ((with_reducible refine fin_mk ?_); (repeat (first | replace H := grd_k H | replace H := out_step H (by assumption) | replace H := outm_out H)); have H := Option.some.inj H; subst H))
    | constructor
def G3 : Env := G2.add 56 [] spec_l21Good.S
theorem G3_ok : EnvOk Try.prog G3 := G2_ok.add ent_56 fun ar h r h1 ⟨a0, y, hy, e1, e2, e3, e4⟩ => by
  subst e3 e4; exact (spec_l21Good.spec a0 y hy).le e1 e2
attribute [local irreducible] spec_l21Good

noncomputable def spec_l21Try (a0 : GripState) (a1 : Int) : Option (GripStep) :=
  (cond (decide (a1 = (2 : Int))) (cond (decide (a0.1 = (1 : Int))) ((some (a1, (2000 : Int), ()))) ((some (a1, (0 : Int), ())))) ((some (a1, (0 : Int), ()))))
def spec_l21Try.res (_ : GripState) (_ : Int) (y : GripStep) : AV := (.agg [(.v (.int .i64 y.1)), (.v (.int .i64 y.2.1))])
def spec_l21Try.out (_ : GripState) (_ : Int) (_ : GripStep) : List (Option LB) := []
def spec_l21Try.S (ar : List AV) (h : List (Option LB)) (r : AV) (h1 : List (Option LB)) : Prop := ∃ a0 a1 y, spec_l21Try a0 a1 = some y ∧ leL ar [(.agg [(.v (.int .i64 a0.1)), (.v (.int .i64 a0.2.1)), (.v (.int .i64 a0.2.2.1)), (.v (.int .i64 a0.2.2.2.1))]), (.v (.int .i64 a1))] ∧ leH h [] ∧ r = spec_l21Try.res a0 a1 y ∧ h1 = spec_l21Try.out a0 a1 y
theorem spec_l21Try.call {ar : List AV} {h : List (Option LB)} {a0 : GripState} {a1 : Int} {y : GripStep} (H : spec_l21Try a0 a1 = some y) (h0 : leLk ar [(.agg [(.v (.int .i64 a0.1)), (.v (.int .i64 a0.2.1)), (.v (.int .i64 a0.2.2.1)), (.v (.int .i64 a0.2.2.2.1))]), (.v (.int .i64 a1))] (leHk h [])) : spec_l21Try.S ar h (spec_l21Try.res a0 a1 y) (spec_l21Try.out a0 a1 y) := ⟨a0, a1, y, H, (args_ok h0).1, (args_ok h0).2, rfl, rfl⟩
set_option maxHeartbeats 100000000 in
set_option maxRecDepth 100000 in
theorem spec_l21Try.spec (a0 : GripState) (a1 : Int) (y : GripStep) (H : spec_l21Try a0 a1 = some y) : Spec Try.prog 68 [(.agg [(.v (.int .i64 a0.1)), (.v (.int .i64 a0.2.1)), (.v (.int .i64 a0.2.2.1)), (.v (.int .i64 a0.2.2.2.1))]), (.v (.int .i64 a1))] [] (spec_l21Try.res a0 a1 y) (spec_l21Try.out a0 a1 y) := by
  refine spec_intro (G3_ok.at tok []) (ct := []) Try.func68 rfl (by kernel_rfl) (by kernel_rfl) rfl ?_
  repeat' first
    | ((with_reducible refine eqg ?_); exact rfl)
    | ((with_reducible refine KOb.mk ?_); kernel_rfl)
    | ((with_reducible intro h); (repeat (first | replace H := grd_k H | replace H := out_step H (by assumption))); first | replace H := cond_t h H | replace H := cond_f h H | exact absurd h (by decide) | skip)
    | ((with_reducible refine Ob.mk ?_); first | (with_reducible rfl) | (first | ((repeat (first | (with_reducible exact grd_p H) | (replace H := grd_k H) | (replace H := out_step H (by assumption)))); done) | rfl | ((repeat (first | exact grd_p H | replace H := grd_k H | replace H := out_step H (by assumption))); done) | ((repeat (first | exact grd_p H | (have hp := grd_p H; exact hp) | replace H := grd_k H | replace H := out_step H (by assumption) | (replace H := bind_some H; obtain ⟨_, _, H⟩ := H))); done) | (repeat (first | exact grd_p H | replace H := grd_k H | replace H := out_step H (by assumption)))))
    | (with_reducible exact True.intro)
    | ((conv => whnf); first
        | (with_reducible refine And.intro ?_ ?_)
        | (with_reducible exact True.intro)
        | ((with_reducible refine Ob.mk ?_); first | (with_reducible rfl) | (first | ((repeat (first | (with_reducible exact grd_p H) | (replace H := grd_k H) | (replace H := out_step H (by assumption)))); done) | rfl | ((repeat (first | exact grd_p H | replace H := grd_k H | replace H := out_step H (by assumption))); done) | ((repeat (first | exact grd_p H | (have hp := grd_p H; exact hp) | replace H := grd_k H | replace H := out_step H (by assumption) | (replace H := bind_some H; obtain ⟨_, _, H⟩ := H))); done) | (repeat (first | exact grd_p H | replace H := grd_k H | replace H := out_step H (by assumption)))))
        | ((with_reducible refine fin_mk ?_); (repeat (first | replace H := grd_k H | replace H := out_step H (by assumption))); have H := Option.some.inj H; subst H))
    | constructor
def G4 : Env := G3.add 68 [] spec_l21Try.S
theorem G4_ok : EnvOk Try.prog G4 := G3_ok.add ent_68 fun ar h r h1 ⟨a0, a1, y, hy, e1, e2, e3, e4⟩ => by
  subst e3 e4; exact (spec_l21Try.spec a0 a1 y hy).le e1 e2
attribute [local irreducible] spec_l21Try

noncomputable def spec_l1Least (a0 : Int) (a1 : Int) : Option (Int) :=
  (cond (decide (a0 < a1)) ((some a0)) ((some a1)))
def spec_l1Least.res (_ : Int) (_ : Int) (y : Int) : AV := (.v (.int .i64 y))
def spec_l1Least.out (_ : Int) (_ : Int) (_ : Int) : List (Option LB) := []
def spec_l1Least.S (ar : List AV) (h : List (Option LB)) (r : AV) (h1 : List (Option LB)) : Prop := ∃ a0 a1 y, spec_l1Least a0 a1 = some y ∧ leL ar [(.v (.int .i64 a0)), (.v (.int .i64 a1))] ∧ leH h [] ∧ r = spec_l1Least.res a0 a1 y ∧ h1 = spec_l1Least.out a0 a1 y
theorem spec_l1Least.call {ar : List AV} {h : List (Option LB)} {a0 : Int} {a1 : Int} {y : Int} (H : spec_l1Least a0 a1 = some y) (h0 : leLk ar [(.v (.int .i64 a0)), (.v (.int .i64 a1))] (leHk h [])) : spec_l1Least.S ar h (spec_l1Least.res a0 a1 y) (spec_l1Least.out a0 a1 y) := ⟨a0, a1, y, H, (args_ok h0).1, (args_ok h0).2, rfl, rfl⟩
set_option maxHeartbeats 100000000 in
set_option maxRecDepth 100000 in
theorem spec_l1Least.spec (a0 : Int) (a1 : Int) (y : Int) (H : spec_l1Least a0 a1 = some y) : Spec Try.prog 76 [(.v (.int .i64 a0)), (.v (.int .i64 a1))] [] (spec_l1Least.res a0 a1 y) (spec_l1Least.out a0 a1 y) := by
  refine spec_intro (G4_ok.at tok []) (ct := []) Try.func76 rfl (by kernel_rfl) (by kernel_rfl) rfl ?_
  repeat' first
    | ((with_reducible refine eqg ?_); exact rfl)
    | ((with_reducible refine KOb.mk ?_); kernel_rfl)
    | ((with_reducible intro h); (repeat (first | replace H := grd_k H | replace H := out_step H (by assumption))); first | replace H := cond_t h H | replace H := cond_f h H | exact absurd h (by decide) | skip)
    | ((with_reducible refine Ob.mk ?_); first | (with_reducible rfl) | (first | ((repeat (first | (with_reducible exact grd_p H) | (replace H := grd_k H) | (replace H := out_step H (by assumption)))); done) | rfl | ((repeat (first | exact grd_p H | replace H := grd_k H | replace H := out_step H (by assumption))); done) | ((repeat (first | exact grd_p H | (have hp := grd_p H; exact hp) | replace H := grd_k H | replace H := out_step H (by assumption) | (replace H := bind_some H; obtain ⟨_, _, H⟩ := H))); done) | (repeat (first | exact grd_p H | replace H := grd_k H | replace H := out_step H (by assumption)))))
    | (with_reducible exact True.intro)
    | ((conv => whnf); first
        | (with_reducible refine And.intro ?_ ?_)
        | (with_reducible exact True.intro)
        | ((with_reducible refine Ob.mk ?_); first | (with_reducible rfl) | (first | ((repeat (first | (with_reducible exact grd_p H) | (replace H := grd_k H) | (replace H := out_step H (by assumption)))); done) | rfl | ((repeat (first | exact grd_p H | replace H := grd_k H | replace H := out_step H (by assumption))); done) | ((repeat (first | exact grd_p H | (have hp := grd_p H; exact hp) | replace H := grd_k H | replace H := out_step H (by assumption) | (replace H := bind_some H; obtain ⟨_, _, H⟩ := H))); done) | (repeat (first | exact grd_p H | replace H := grd_k H | replace H := out_step H (by assumption)))))
        | ((with_reducible refine fin_mk ?_); (repeat (first | replace H := grd_k H | replace H := out_step H (by assumption))); have H := Option.some.inj H; subst H))
    | constructor
def G5 : Env := G4.add 76 [] spec_l1Least.S
theorem G5_ok : EnvOk Try.prog G5 := G4_ok.add ent_76 fun ar h r h1 ⟨a0, a1, y, hy, e1, e2, e3, e4⟩ => by
  subst e3 e4; exact (spec_l1Least.spec a0 a1 y hy).le e1 e2
attribute [local irreducible] spec_l1Least

noncomputable def spec_l21Move (a0 : GripState) (a1 : GripStep) : Option (GripState × Bool) :=
  ((cond (decide (a1.1 = (2 : Int))) (cond (decide (a0.2.1 = (1 : Int))) ((some (decide (a0.1 = (0 : Int))))) ((some false))) ((some false))).bind fun z1 => (cond z1 ((some (((1 : Int), a0.2.1, a0.2.2.1, a0.2.2.2.1, ()), true))) ((cond (decide (a1.1 = (2 : Int))) (cond (decide (a0.2.1 = (1 : Int))) ((some (decide (a0.1 = (1 : Int))))) ((some false))) ((some false))).bind fun z2 => (cond z2 ((some (((2 : Int), a0.2.1, a1.2.1, a0.2.2.2.1, ()), true))) ((cond (decide (a1.1 = (3 : Int))) (cond (decide (a0.1 = (2 : Int))) (cond (decide (a0.2.1 = (1 : Int))) ((some true)) ((some (decide (a0.2.1 = (3 : Int)))))) ((some false))) ((some false))).bind fun z3 => (cond z3 ((some (((3 : Int), a0.2.1, (0 : Int), a0.2.2.2.1, ()), true))) (cond (decide (a1.1 = (3 : Int))) (cond (decide (a0.1 = (3 : Int))) ((some (((0 : Int), a0.2.1, a0.2.2.1, a0.2.2.2.1, ()), true))) ((some ((a0.1, a0.2.1, a0.2.2.1, a0.2.2.2.1, ()), false)))) ((some ((a0.1, a0.2.1, a0.2.2.1, a0.2.2.2.1, ()), false))))))))))
def spec_l21Move.res (_ : GripState) (_ : GripStep) (y : GripState × Bool) : AV := (.tup [(.agg [(.v (.int .i64 y.1.1)), (.v (.int .i64 y.1.2.1)), (.v (.int .i64 y.1.2.2.1)), (.v (.int .i64 y.1.2.2.2.1))]), (.bl y.2)])
def spec_l21Move.out (_ : GripState) (_ : GripStep) (_ : GripState × Bool) : List (Option LB) := []
def spec_l21Move.S (ar : List AV) (h : List (Option LB)) (r : AV) (h1 : List (Option LB)) : Prop := ∃ a0 a1 y, spec_l21Move a0 a1 = some y ∧ leL ar [(.agg [(.v (.int .i64 a0.1)), (.v (.int .i64 a0.2.1)), (.v (.int .i64 a0.2.2.1)), (.v (.int .i64 a0.2.2.2.1))]), (.agg [(.v (.int .i64 a1.1)), (.v (.int .i64 a1.2.1))])] ∧ leH h [] ∧ r = spec_l21Move.res a0 a1 y ∧ h1 = spec_l21Move.out a0 a1 y
theorem spec_l21Move.call {ar : List AV} {h : List (Option LB)} {a0 : GripState} {a1 : GripStep} {y : GripState × Bool} (H : spec_l21Move a0 a1 = some y) (h0 : leLk ar [(.agg [(.v (.int .i64 a0.1)), (.v (.int .i64 a0.2.1)), (.v (.int .i64 a0.2.2.1)), (.v (.int .i64 a0.2.2.2.1))]), (.agg [(.v (.int .i64 a1.1)), (.v (.int .i64 a1.2.1))])] (leHk h [])) : spec_l21Move.S ar h (spec_l21Move.res a0 a1 y) (spec_l21Move.out a0 a1 y) := ⟨a0, a1, y, H, (args_ok h0).1, (args_ok h0).2, rfl, rfl⟩
set_option maxHeartbeats 100000000 in
set_option maxRecDepth 100000 in
theorem spec_l21Move.spec (a0 : GripState) (a1 : GripStep) (y : GripState × Bool) (H : spec_l21Move a0 a1 = some y) : Spec Try.prog 77 [(.agg [(.v (.int .i64 a0.1)), (.v (.int .i64 a0.2.1)), (.v (.int .i64 a0.2.2.1)), (.v (.int .i64 a0.2.2.2.1))]), (.agg [(.v (.int .i64 a1.1)), (.v (.int .i64 a1.2.1))])] [] (spec_l21Move.res a0 a1 y) (spec_l21Move.out a0 a1 y) := by
  refine spec_intro (G5_ok.at tok []) (ct := [(4, none), (6, none), (9, none)]) Try.func77 rfl (by kernel_rfl) (by kernel_rfl) rfl ?_
  repeat' first
    | ((with_reducible refine eqg ?_); exact rfl)
    | ((with_reducible refine KOb.mk ?_); kernel_rfl)
    | ((with_reducible intro h); (repeat (first | replace H := grd_k H | replace H := out_step H (by assumption))); first | replace H := cond_t h H | replace H := cond_f h H | exact absurd h (by decide) | skip)
    | ((with_reducible refine Ob.mk ?_); first | (with_reducible rfl) | (first | ((repeat (first | (with_reducible exact grd_p H) | (replace H := grd_k H) | (replace H := out_step H (by assumption)))); done) | rfl | ((repeat (first | exact grd_p H | replace H := grd_k H | replace H := out_step H (by assumption))); done) | ((repeat (first | exact grd_p H | (have hp := grd_p H; exact hp) | replace H := grd_k H | replace H := out_step H (by assumption) | (replace H := bind_some H; obtain ⟨_, _, H⟩ := H))); done) | (repeat (first | exact grd_p H | replace H := grd_k H | replace H := out_step H (by assumption)))))
    | (with_reducible exact True.intro)
    | ((conv => whnf); first
        | (with_reducible refine And.intro ?_ ?_)
        | (with_reducible exact True.intro)
        | ((with_reducible refine Ob.mk ?_); first | (with_reducible rfl) | (first | ((repeat (first | (with_reducible exact grd_p H) | (replace H := grd_k H) | (replace H := out_step H (by assumption)))); done) | rfl | ((repeat (first | exact grd_p H | replace H := grd_k H | replace H := out_step H (by assumption))); done) | ((repeat (first | exact grd_p H | (have hp := grd_p H; exact hp) | replace H := grd_k H | replace H := out_step H (by assumption) | (replace H := bind_some H; obtain ⟨_, _, H⟩ := H))); done) | (repeat (first | exact grd_p H | replace H := grd_k H | replace H := out_step H (by assumption)))))
        | ((with_reducible refine cutAt (id := 4) ?_); (repeat (first | replace H := grd_k H | replace H := out_step H (by assumption))); first | (replace H := bind_some H; obtain ⟨z, hz, H⟩ := H; refine CutC.mk (id := 4) ⟨sl [(2, (.loc 0 0 0)), (3, (.loc 1 0 0)), (4, (.loc 2 0 0)), (6, (.loc 3 0 0)), (9, (.bl z))], [some (.box 58 [(.v (.int .i64 a0.1)), (.v (.int .i64 a0.2.1)), (.v (.int .i64 a0.2.2.1)), (.v (.int .i64 a0.2.2.2.1))]), some (.box 91 [(.v (.int .i64 a1.1)), (.v (.int .i64 a1.2.1))]), some (.box 58 [(.v (.int .i64 (0 : Int))), (.v (.int .i64 (0 : Int))), (.v (.int .i64 (0 : Int))), (.v (.int .i64 (0 : Int)))]), some (.box 58 [(.v (.int .i64 a0.1)), (.v (.int .i64 a0.2.1)), (.v (.int .i64 a0.2.2.1)), (.v (.int .i64 a0.2.2.2.1))])]⟩ ?_ ?_; (replace H := hz)))
        | ((with_reducible refine cutAt (id := 6) ?_); (repeat (first | replace H := grd_k H | replace H := out_step H (by assumption))); first | (replace H := bind_some H; obtain ⟨z, hz, H⟩ := H; refine CutC.mk (id := 6) ⟨sl [(2, (.loc 0 0 0)), (3, (.loc 1 0 0)), (4, (.loc 2 0 0)), (6, (.loc 3 0 0)), (24, (.bl z))], [some (.box 58 [(.v (.int .i64 a0.1)), (.v (.int .i64 a0.2.1)), (.v (.int .i64 a0.2.2.1)), (.v (.int .i64 a0.2.2.2.1))]), some (.box 91 [(.v (.int .i64 a1.1)), (.v (.int .i64 a1.2.1))]), some (.box 58 [(.v (.int .i64 (0 : Int))), (.v (.int .i64 (0 : Int))), (.v (.int .i64 (0 : Int))), (.v (.int .i64 (0 : Int)))]), some (.box 58 [(.v (.int .i64 a0.1)), (.v (.int .i64 a0.2.1)), (.v (.int .i64 a0.2.2.1)), (.v (.int .i64 a0.2.2.2.1))])]⟩ ?_ ?_; (replace H := hz)))
        | ((with_reducible refine cutAt (id := 9) ?_); (repeat (first | replace H := grd_k H | replace H := out_step H (by assumption))); first | (replace H := bind_some H; obtain ⟨z, hz, H⟩ := H; refine CutC.mk (id := 9) ⟨sl [(2, (.loc 0 0 0)), (3, (.loc 1 0 0)), (4, (.loc 2 0 0)), (6, (.loc 3 0 0)), (42, (.bl z))], [some (.box 58 [(.v (.int .i64 a0.1)), (.v (.int .i64 a0.2.1)), (.v (.int .i64 a0.2.2.1)), (.v (.int .i64 a0.2.2.2.1))]), some (.box 91 [(.v (.int .i64 a1.1)), (.v (.int .i64 a1.2.1))]), some (.box 58 [(.v (.int .i64 (0 : Int))), (.v (.int .i64 (0 : Int))), (.v (.int .i64 (0 : Int))), (.v (.int .i64 (0 : Int)))]), some (.box 58 [(.v (.int .i64 a0.1)), (.v (.int .i64 a0.2.1)), (.v (.int .i64 a0.2.2.1)), (.v (.int .i64 a0.2.2.2.1))])]⟩ ?_ ?_; (replace H := hz)))
        | ((repeat (first | replace H := grd_k H | replace H := out_step H (by assumption))); have H := Option.some.inj H; subst H; with_reducible refine sub_auto ?_)
        | ((with_reducible refine fin_mk ?_); (repeat (first | replace H := grd_k H | replace H := out_step H (by assumption))); have H := Option.some.inj H; subst H))
    | constructor
def G6 : Env := G5.add 77 [] spec_l21Move.S
theorem G6_ok : EnvOk Try.prog G6 := G5_ok.add ent_77 fun ar h r h1 ⟨a0, a1, y, hy, e1, e2, e3, e4⟩ => by
  subst e3 e4; exact (spec_l21Move.spec a0 a1 y hy).le e1 e2
attribute [local irreducible] spec_l21Move

noncomputable def spec_l21Make (a0 : GripState) (a1 : GripStep) : Option (GripState × Bool) :=
  (cond (decide (a1.1 = (1 : Int))) (grd ((4 : Int) ≠ 0) ((spec_l21Good (a0.1, (Int.tmod (w64 (a0.2.1 + (1 : Int))) (4 : Int)), a0.2.2.1, a0.2.2.2.1, ())).bind fun y1 => (cond y1 ((some ((a0.1, (Int.tmod (w64 (a0.2.1 + (1 : Int))) (4 : Int)), a0.2.2.1, a0.2.2.2.1, ()), (!decide (a0.1 = (4 : Int)))))) ((some ((a0.1, (Int.tmod (w64 (a0.2.1 + (1 : Int))) (4 : Int)), a0.2.2.1, a0.2.2.2.1, ()), false)))))) (cond (decide (a1.1 = (4 : Int))) ((cond (decide (a0.2.2.1 < (500 : Int))) ((spec_l1Least (3 : Int) (w64 (a0.2.2.2.1 + (1 : Int)))).bind fun y2 => (some ((3 : Int), (0 : Int), y2))) ((some (a0.1, a0.2.2.1, (0 : Int))))).bind fun z3 => (cond (decide (a0.2.1 = (1 : Int))) ((some ((z3.1, a0.2.1, z3.2.1, z3.2.2, ()), (decide (a0.1 = (2 : Int)))))) ((some ((z3.1, a0.2.1, z3.2.1, z3.2.2, ()), false))))) (cond (decide (a1.1 = (5 : Int))) (cond (decide (a0.1 = (4 : Int))) ((some (((0 : Int), a0.2.1, a0.2.2.1, (0 : Int), ()), (decide (a0.2.1 = (0 : Int)))))) (cond (decide (a0.2.1 = (0 : Int))) ((some (((4 : Int), a0.2.1, a0.2.2.1, a0.2.2.2.1, ()), (decide (a0.2.2.2.1 = (3 : Int)))))) ((some (((4 : Int), a0.2.1, a0.2.2.1, a0.2.2.2.1, ()), false))))) ((spec_l21Move (a0.1, a0.2.1, a0.2.2.1, a0.2.2.2.1, ()) (a1.1, a1.2.1, ())).bind fun y4 => (some ((y4.1.1, y4.1.2.1, y4.1.2.2.1, y4.1.2.2.2.1, ()), y4.2))))))
def spec_l21Make.res (_ : GripState) (_ : GripStep) (y : GripState × Bool) : AV := (.tup [(.agg [(.v (.int .i64 y.1.1)), (.v (.int .i64 y.1.2.1)), (.v (.int .i64 y.1.2.2.1)), (.v (.int .i64 y.1.2.2.2.1))]), (.bl y.2)])
def spec_l21Make.out (_ : GripState) (_ : GripStep) (_ : GripState × Bool) : List (Option LB) := []
def spec_l21Make.S (ar : List AV) (h : List (Option LB)) (r : AV) (h1 : List (Option LB)) : Prop := ∃ a0 a1 y, spec_l21Make a0 a1 = some y ∧ leL ar [(.agg [(.v (.int .i64 a0.1)), (.v (.int .i64 a0.2.1)), (.v (.int .i64 a0.2.2.1)), (.v (.int .i64 a0.2.2.2.1))]), (.agg [(.v (.int .i64 a1.1)), (.v (.int .i64 a1.2.1))])] ∧ leH h [] ∧ r = spec_l21Make.res a0 a1 y ∧ h1 = spec_l21Make.out a0 a1 y
theorem spec_l21Make.call {ar : List AV} {h : List (Option LB)} {a0 : GripState} {a1 : GripStep} {y : GripState × Bool} (H : spec_l21Make a0 a1 = some y) (h0 : leLk ar [(.agg [(.v (.int .i64 a0.1)), (.v (.int .i64 a0.2.1)), (.v (.int .i64 a0.2.2.1)), (.v (.int .i64 a0.2.2.2.1))]), (.agg [(.v (.int .i64 a1.1)), (.v (.int .i64 a1.2.1))])] (leHk h [])) : spec_l21Make.S ar h (spec_l21Make.res a0 a1 y) (spec_l21Make.out a0 a1 y) := ⟨a0, a1, y, H, (args_ok h0).1, (args_ok h0).2, rfl, rfl⟩
set_option maxHeartbeats 100000000 in
set_option maxRecDepth 100000 in
theorem spec_l21Make.spec (a0 : GripState) (a1 : GripStep) (y : GripState × Bool) (H : spec_l21Make a0 a1 = some y) : Spec Try.prog 67 [(.agg [(.v (.int .i64 a0.1)), (.v (.int .i64 a0.2.1)), (.v (.int .i64 a0.2.2.1)), (.v (.int .i64 a0.2.2.2.1))]), (.agg [(.v (.int .i64 a1.1)), (.v (.int .i64 a1.2.1))])] [] (spec_l21Make.res a0 a1 y) (spec_l21Make.out a0 a1 y) := by
  refine spec_intro (G6_ok.at tok []) (ct := [(12, none), (5, some [2, 4, 6, 23, 24, 25]), (8, some [2, 4, 6, 31, 45, 46, 47]), (14, some [2, 3, 4, 6, 49, 66, 67, 68]), (20, some [2, 3, 4])]) Try.func67 rfl (by kernel_rfl) (by kernel_rfl) rfl ?_
  repeat' first
    | ((with_reducible refine eqg ?_); exact rfl)
    | ((with_reducible refine KOb.mk ?_); kernel_rfl)
    | ((with_reducible intro h); (repeat (first | replace H := grd_k H | replace H := out_step H (by assumption))); first | replace H := cond_t h H | replace H := cond_f h H | exact absurd h (by decide) | skip)
    | ((with_reducible refine Ob.mk ?_); first | (with_reducible rfl) | (first | ((repeat (first | (with_reducible exact grd_p H) | (replace H := grd_k H) | (replace H := out_step H (by assumption)))); done) | rfl | ((repeat (first | exact grd_p H | replace H := grd_k H | replace H := out_step H (by assumption))); done) | ((repeat (first | exact grd_p H | (have hp := grd_p H; exact hp) | replace H := grd_k H | replace H := out_step H (by assumption) | (replace H := bind_some H; obtain ⟨_, _, H⟩ := H))); done) | (repeat (first | exact grd_p H | replace H := grd_k H | replace H := out_step H (by assumption)))))
    | (with_reducible exact True.intro)
    | ((conv => whnf); first
        | (with_reducible refine And.intro ?_ ?_)
        | (with_reducible exact True.intro)
        | ((with_reducible refine Ob.mk ?_); first | (with_reducible rfl) | (first | ((repeat (first | (with_reducible exact grd_p H) | (replace H := grd_k H) | (replace H := out_step H (by assumption)))); done) | rfl | ((repeat (first | exact grd_p H | replace H := grd_k H | replace H := out_step H (by assumption))); done) | ((repeat (first | exact grd_p H | (have hp := grd_p H; exact hp) | replace H := grd_k H | replace H := out_step H (by assumption) | (replace H := bind_some H; obtain ⟨_, _, H⟩ := H))); done) | (repeat (first | exact grd_p H | replace H := grd_k H | replace H := out_step H (by assumption)))))
        | ((with_reducible refine CallW.mk ?_); (repeat (first | replace H := grd_k H | replace H := out_step H (by assumption))); replace H := bind_some H; obtain ⟨y, hy, H⟩ := H; first | ((with_reducible have hz : spec_l21Good _ = some y := hy); clear hz; refine Exists.intro _ (Exists.intro _ ⟨spec_l21Good.call hy ?_, rfl, rfl, ?_⟩)) | ((with_reducible have hz : spec_l1Least _ _ = some y := hy); clear hz; refine Exists.intro _ (Exists.intro _ ⟨spec_l1Least.call hy ?_, rfl, rfl, ?_⟩)) | ((with_reducible have hz : spec_l21Move _ _ = some y := hy); clear hz; refine Exists.intro _ (Exists.intro _ ⟨spec_l21Move.call hy ?_, rfl, rfl, ?_⟩)))
        | ((with_reducible refine cutAt (id := 12) ?_); (repeat (first | replace H := grd_k H | replace H := out_step H (by assumption))); first | (replace H := bind_some H; obtain ⟨z, hz, H⟩ := H; refine CutC.mk (id := 12) ⟨sl [(2, (.loc 0 0 0)), (4, (.loc 1 0 0)), (6, (.loc 2 0 0))], [some (.box 58 [(.v (.int .i64 a0.1)), (.v (.int .i64 a0.2.1)), (.v (.int .i64 a0.2.2.1)), (.v (.int .i64 a0.2.2.2.1))]), some (.box 58 [(.v (.int .i64 (0 : Int))), (.v (.int .i64 (0 : Int))), (.v (.int .i64 (0 : Int))), (.v (.int .i64 (0 : Int)))]), some (.box 58 [(.v (.int .i64 z.1)), (.v (.int .i64 a0.2.1)), (.v (.int .i64 z.2.1)), (.v (.int .i64 z.2.2))])]⟩ ?_ ?_; (replace H := hz)))
        | ((repeat (first | replace H := grd_k H | replace H := out_step H (by assumption))); have H := Option.some.inj H; subst H; with_reducible refine sub_auto ?_)
        | ((with_reducible refine fin_mk ?_); (repeat (first | replace H := grd_k H | replace H := out_step H (by assumption))); have H := Option.some.inj H; subst H))
    | constructor
def G7 : Env := G6.add 67 [] spec_l21Make.S
theorem G7_ok : EnvOk Try.prog G7 := G6_ok.add ent_67 fun ar h r h1 ⟨a0, a1, y, hy, e1, e2, e3, e4⟩ => by
  subst e3 e4; exact (spec_l21Make.spec a0 a1 y hy).le e1 e2
attribute [local irreducible] spec_l21Make

end Go.Proofs.Ytaajchikfgbecaa
