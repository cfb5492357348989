/-
  Contracts, printed by a program.
-/
import Derived.Test.YtbjhcjhkmppocaaDoorC821
namespace Go.Proofs.YtbjhcjhkmppocaaDoor
open Go.RowKit
attribute [local irreducible] Ob loopwp Sub Spec Fin Again CallW CutC KOb iter joinx outm

attribute [local irreducible] laws_vBig spec_l1Cur_next spec_l1Cur_pick spec_l1Cur_among spec_l1Cur_one spec_l1Cur_gripStep spec_l1In

noncomputable def spec_l21Good (a0 : GripState) : Option (Bool) :=
  ((spec_l1In a0.1 (0 : Int) (4 : Int)).bind fun y1 => (cond (!y1) ((some false)) ((spec_l1In a0.2.1 (0 : Int) (3 : Int)).bind fun y2 => (cond (!y2) ((some false)) ((spec_l1In a0.2.2.1 (0 : Int) (2000 : Int)).bind fun y3 => (cond (!y3) ((some false)) ((spec_l1In a0.2.2.2.1 (0 : Int) (3 : Int)).bind fun y4 => (cond (!y4) ((some false)) (joinx (cond (!decide (a0.1 = (2 : Int))) (cond (!decide (a0.2.2.1 = (0 : Int))) (outm ((some false))) ((some (.go ())))) ((some (.go ())))) (fun (_ : Unit) => (cond (decide (a0.2.1 = (0 : Int))) (cond (decide (a0.1 = (0 : Int))) ((some true)) ((some (decide (a0.1 = (4 : Int)))))) (cond (decide (a0.2.1 = (2 : Int))) (cond (decide (a0.1 = (2 : Int))) ((some (decide ((500 : Int) ≤ a0.2.2.1)))) ((some false))) (cond (decide (a0.2.1 = (3 : Int))) (cond (!decide (a0.1 = (4 : Int))) ((some (!decide (a0.1 = (1 : Int))))) ((some false))) ((some (!decide (a0.1 = (4 : Int))))))))))))))))))
def spec_l21Good.res (_ : GripState) (y : Bool) : AV := (.bl y)
def spec_l21Good.out (_ : GripState) (_ : Bool) : List (Option LB) := []
def spec_l21Good.S (ar : List AV) (h : List (Option LB)) (r : AV) (h1 : List (Option LB)) : Prop := ∃ a0 y, spec_l21Good a0 = some y ∧ leL ar [(.agg [(.v (.int .i64 a0.1)), (.v (.int .i64 a0.2.1)), (.v (.int .i64 a0.2.2.1)), (.v (.int .i64 a0.2.2.2.1))])] ∧ leH h [] ∧ r = spec_l21Good.res a0 y ∧ h1 = spec_l21Good.out a0 y
theorem spec_l21Good.call {ar : List AV} {h : List (Option LB)} {a0 : GripState} {y : Bool} (H : spec_l21Good a0 = some y) (h0 : leLk ar [(.agg [(.v (.int .i64 a0.1)), (.v (.int .i64 a0.2.1)), (.v (.int .i64 a0.2.2.1)), (.v (.int .i64 a0.2.2.2.1))])] (leHk h [])) : spec_l21Good.S ar h (spec_l21Good.res a0 y) (spec_l21Good.out a0 y) := ⟨a0, y, H, (args_ok h0).1, (args_ok h0).2, rfl, rfl⟩
set_option maxHeartbeats 100000000 in
set_option maxRecDepth 100000 in
theorem spec_l21Good.spec (a0 : GripState) (y : Bool) (H : spec_l21Good a0 = some y) : Spec Tryd.prog 21 [(.agg [(.v (.int .i64 a0.1)), (.v (.int .i64 a0.2.1)), (.v (.int .i64 a0.2.2.1)), (.v (.int .i64 a0.2.2.2.1))])] [] (spec_l21Good.res a0 y) (spec_l21Good.out a0 y) := by
  refine spec_intro (G7_ok.at tok []) (ct := [(5, none), (2, some [1, 24, 29, 30, 31, 41, 42, 43, 51, 52, 53, 61, 62, 63]), (12, some [1])]) Tryd.func21 rfl (by kernel_rfl) (by kernel_rfl) rfl ?_
  repeat' first
    | (with_reducible exact (outm_no H).elim)
    | ((replace H := out_step H (by assumption)); exact (outm_no H).elim)
    | ((with_reducible refine eqg ?_); exact rfl)
    | ((with_reducible refine KOb.mk ?_); kernel_rfl)
    | ((with_reducible intro h); (repeat (first | replace H := grd_k H | replace H := out_step H (by assumption) | replace H := outm_out H)); first | replace H := cond_t h H | replace H := cond_f h H | exact absurd h (by decide) | skip)
    | ((with_reducible refine Ob.mk ?_); first | (with_reducible rfl) | (first | ((repeat (first | (with_reducible exact grd_p H) | (replace H := grd_k H) | (replace H := out_step H (by assumption)) | replace H := outm_out H)); done) | rfl | ((repeat (first | exact grd_p H | replace H := grd_k H | replace H := out_step H (by assumption) | replace H := outm_out H)); done) | ((repeat (first | exact grd_p H | (have hp := grd_p H; exact hp) | replace H := grd_k H | replace H := out_step H (by assumption) | replace H := outm_out H | (replace H := bind_some H; obtain ⟨_, _, H⟩ := H))); done) | (repeat (first | exact grd_p H | replace H := grd_k H | replace H := out_step H (by assumption) | replace H := outm_out H))))
    | (with_reducible exact True.intro)
    | ((conv => whnf); first
        | (with_reducible refine And.intro ?_ ?_)
        | (with_reducible exact True.intro)
        | ((with_reducible refine Ob.mk ?_); first | (with_reducible rfl) | (first | ((repeat (first | (with_reducible exact grd_p H) | (replace H := grd_k H) | (replace H := out_step H (by assumption)) | replace H := outm_out H)); done) | rfl | ((repeat (first | exact grd_p H | replace H := grd_k H | replace H := out_step H (by assumption) | replace H := outm_out H)); done) | ((repeat (first | exact grd_p H | (have hp := grd_p H; exact hp) | replace H := grd_k H | replace H := out_step H (by assumption) | replace H := outm_out H | (replace H := bind_some H; obtain ⟨_, _, H⟩ := H))); done) | (repeat (first | exact grd_p H | replace H := grd_k H | replace H := out_step H (by assumption) | replace H := outm_out H))))
        | ((with_reducible refine CallW.mk ?_); (repeat (first | replace H := grd_k H | replace H := out_step H (by assumption) | replace H := outm_out H)); replace H := bind_some H; obtain ⟨y, hy, H⟩ := H; first | ((with_reducible have hz : spec_l1In _ _ _ = some y := hy); clear hz; refine Exists.intro _ (Exists.intro _ ⟨spec_l1In.call hy ?_, rfl, rfl, ?_⟩)))
        | ((with_reducible refine cutAt (id := 5) ?_); (repeat (first | replace H := grd_k H | replace H := out_step H (by assumption) | replace H := outm_out H)); first | (replace H := joinx_some H; rcases H with ⟨z, hz, H⟩ | H; rotate_left; (with_reducible refine CutC.no ?_); rotate_right; (refine CutC.mk (id := 5) ⟨sl [(1, (.loc 0 0 0))], [some (.box 25 [(.v (.int .i64 a0.1)), (.v (.int .i64 a0.2.1)), (.v (.int .i64 a0.2.2.1)), (.v (.int .i64 a0.2.2.2.1))])]⟩ ?_ ?_; (replace H := hz))))
        | ((repeat (first | replace H := grd_k H | replace H := out_step H (by assumption) | replace H := outm_out H)); have H := Option.some.inj H; subst H; with_reducible refine sub_auto ?_)
        | ((repeat (first | replace H := grd_k H | replace H := out_step H (by assumption) | replace H := outm_out H)); have H := go_inj H; subst H; with_reducible refine sub_auto ?_)
        | ((repeat (first | replace H := grd_k H | replace H := out_step H (by assumption) | replace H := outm_out H)); exact (go_out H).elim)
        | ((with_reducible refine fin_mk ?_); (repeat (first | replace H := grd_k H | replace H := out_step H (by assumption) | replace H := outm_out H)); have H := Option.some.inj H; subst H))
    | constructor
def G8 : Env := G7.add 21 [] spec_l21Good.S
theorem G8_ok : EnvOk Tryd.prog G8 := G7_ok.add ent_21 fun ar h r h1 ⟨a0, y, hy, e1, e2, e3, e4⟩ => by
  subst e3 e4; exact (spec_l21Good.spec a0 y hy).le e1 e2
attribute [local irreducible] spec_l21Good

noncomputable def spec_l21Step (a0 : GripState) (a1 : GripStep) : Option (Bool) :=
  (cond (decide (a1.1 = (2 : Int))) (cond (decide (a0.1 = (1 : Int))) ((spec_l1In a1.2.1 (1 : Int) (2000 : Int)).bind fun y1 => (some y1)) ((spec_l1In a1.1 (1 : Int) (5 : Int)).bind fun y2 => (cond y2 ((some (decide (a1.2.1 = (0 : Int))))) ((some false))))) ((spec_l1In a1.1 (1 : Int) (5 : Int)).bind fun y3 => (cond y3 ((some (decide (a1.2.1 = (0 : Int))))) ((some false)))))
def spec_l21Step.res (_ : GripState) (_ : GripStep) (y : Bool) : AV := (.bl y)
def spec_l21Step.out (_ : GripState) (_ : GripStep) (_ : Bool) : List (Option LB) := []
def spec_l21Step.S (ar : List AV) (h : List (Option LB)) (r : AV) (h1 : List (Option LB)) : Prop := ∃ a0 a1 y, spec_l21Step a0 a1 = some y ∧ leL ar [(.agg [(.v (.int .i64 a0.1)), (.v (.int .i64 a0.2.1)), (.v (.int .i64 a0.2.2.1)), (.v (.int .i64 a0.2.2.2.1))]), (.agg [(.v (.int .i64 a1.1)), (.v (.int .i64 a1.2.1))])] ∧ leH h [] ∧ r = spec_l21Step.res a0 a1 y ∧ h1 = spec_l21Step.out a0 a1 y
theorem spec_l21Step.call {ar : List AV} {h : List (Option LB)} {a0 : GripState} {a1 : GripStep} {y : Bool} (H : spec_l21Step a0 a1 = some y) (h0 : leLk ar [(.agg [(.v (.int .i64 a0.1)), (.v (.int .i64 a0.2.1)), (.v (.int .i64 a0.2.2.1)), (.v (.int .i64 a0.2.2.2.1))]), (.agg [(.v (.int .i64 a1.1)), (.v (.int .i64 a1.2.1))])] (leHk h [])) : spec_l21Step.S ar h (spec_l21Step.res a0 a1 y) (spec_l21Step.out a0 a1 y) := ⟨a0, a1, y, H, (args_ok h0).1, (args_ok h0).2, rfl, rfl⟩
set_option maxHeartbeats 100000000 in
set_option maxRecDepth 100000 in
theorem spec_l21Step.spec (a0 : GripState) (a1 : GripStep) (y : Bool) (H : spec_l21Step a0 a1 = some y) : Spec Tryd.prog 53 [(.agg [(.v (.int .i64 a0.1)), (.v (.int .i64 a0.2.1)), (.v (.int .i64 a0.2.2.1)), (.v (.int .i64 a0.2.2.2.1))]), (.agg [(.v (.int .i64 a1.1)), (.v (.int .i64 a1.2.1))])] [] (spec_l21Step.res a0 a1 y) (spec_l21Step.out a0 a1 y) := by
  refine spec_intro (G8_ok.at tok []) (ct := [(3, some [3, 20, 21, 22])]) Tryd.func53 rfl (by kernel_rfl) (by kernel_rfl) rfl ?_
  repeat' first
    | ((with_reducible refine eqg ?_); exact rfl)
    | ((with_reducible refine KOb.mk ?_); kernel_rfl)
    | ((with_reducible intro h); (repeat (first | replace H := grd_k H | replace H := out_step H (by assumption))); first | replace H := cond_t h H | replace H := cond_f h H | exact absurd h (by decide) | skip)
    | ((with_reducible refine Ob.mk ?_); first | (with_reducible rfl) | (first | ((repeat (first | (with_reducible exact grd_p H) | (replace H := grd_k H) | (replace H := out_step H (by assumption)))); done) | rfl | ((repeat (first | exact grd_p H | replace H := grd_k H | replace H := out_step H (by assumption))); done) | ((repeat (first | exact grd_p H | (have hp := grd_p H; exact hp) | replace H := grd_k H | replace H := out_step H (by assumption) | (replace H := bind_some H; obtain ⟨_, _, H⟩ := H))); done) | (repeat (first | exact grd_p H | replace H := grd_k H | replace H := out_step H (by assumption)))))
    | (with_reducible exact True.intro)
    | ((conv => whnf); first
        | (with_reducible refine And.intro ?_ ?_)
        | (with_reducible exact True.intro)
        | ((with_reducible refine Ob.mk ?_); first | (with_reducible rfl) | (first | ((repeat (first | (with_reducible exact grd_p H) | (replace H := grd_k H) | (replace H := out_step H (by assumption)))); done) | rfl | ((repeat (first | exact grd_p H | replace H := grd_k H | replace H := out_step H (by assumption))); done) | ((repeat (first | exact grd_p H | (have hp := grd_p H; exact hp) | replace H := grd_k H | replace H := out_step H (by assumption) | (replace H := bind_some H; obtain ⟨_, _, H⟩ := H))); done) | (repeat (first | exact grd_p H | replace H := grd_k H | replace H := out_step H (by assumption)))))
        | ((with_reducible refine CallW.mk ?_); (repeat (first | replace H := grd_k H | replace H := out_step H (by assumption))); replace H := bind_some H; obtain ⟨y, hy, H⟩ := H; first | ((with_reducible have hz : spec_l1In _ _ _ = some y := hy); clear hz; refine Exists.intro _ (Exists.intro _ ⟨spec_l1In.call hy ?_, rfl, rfl, ?_⟩)))
        | ((with_reducible refine fin_mk ?_); (repeat (first | replace H := grd_k H | replace H := out_step H (by assumption))); have H := Option.some.inj H; subst H))
    | constructor
def G9 : Env := G8.add 53 [] spec_l21Step.S
theorem G9_ok : EnvOk Tryd.prog G9 := G8_ok.add ent_53 fun ar h r h1 ⟨a0, a1, y, hy, e1, e2, e3, e4⟩ => by
  subst e3 e4; exact (spec_l21Step.spec a0 a1 y hy).le e1 e2
attribute [local irreducible] spec_l21Step

noncomputable def spec_l1Least (a0 : Int) (a1 : Int) : Option (Int) :=
  (cond (decide (a0 < a1)) ((some a0)) ((some a1)))
def spec_l1Least.res (_ : Int) (_ : Int) (y : Int) : AV := (.v (.int .i64 y))
def spec_l1Least.out (_ : Int) (_ : Int) (_ : Int) : List (Option LB) := []
def spec_l1Least.S (ar : List AV) (h : List (Option LB)) (r : AV) (h1 : List (Option LB)) : Prop := ∃ a0 a1 y, spec_l1Least a0 a1 = some y ∧ leL ar [(.v (.int .i64 a0)), (.v (.int .i64 a1))] ∧ leH h [] ∧ r = spec_l1Least.res a0 a1 y ∧ h1 = spec_l1Least.out a0 a1 y
theorem spec_l1Least.call {ar : List AV} {h : List (Option LB)} {a0 : Int} {a1 : Int} {y : Int} (H : spec_l1Least a0 a1 = some y) (h0 : leLk ar [(.v (.int .i64 a0)), (.v (.int .i64 a1))] (leHk h [])) : spec_l1Least.S ar h (spec_l1Least.res a0 a1 y) (spec_l1Least.out a0 a1 y) := ⟨a0, a1, y, H, (args_ok h0).1, (args_ok h0).2, rfl, rfl⟩
set_option maxHeartbeats 100000000 in
set_option maxRecDepth 100000 in
theorem spec_l1Least.spec (a0 : Int) (a1 : Int) (y : Int) (H : spec_l1Least a0 a1 = some y) : Spec Tryd.prog 50 [(.v (.int .i64 a0)), (.v (.int .i64 a1))] [] (spec_l1Least.res a0 a1 y) (spec_l1Least.out a0 a1 y) := by
  refine spec_intro (G9_ok.at tok []) (ct := []) Tryd.func50 rfl (by kernel_rfl) (by kernel_rfl) rfl ?_
  repeat' first
    | ((with_reducible refine eqg ?_); exact rfl)
    | ((with_reducible refine KOb.mk ?_); kernel_rfl)
    | ((with_reducible intro h); (repeat (first | replace H := grd_k H | replace H := out_step H (by assumption))); first | replace H := cond_t h H | replace H := cond_f h H | exact absurd h (by decide) | skip)
    | ((with_reducible refine Ob.mk ?_); first | (with_reducible rfl) | (first | ((repeat (first | (with_reducible exact grd_p H) | (replace H := grd_k H) | (replace H := out_step H (by assumption)))); done) | rfl | ((repeat (first | exact grd_p H | replace H := grd_k H | replace H := out_step H (by assumption))); done) | ((repeat (first | exact grd_p H | (have hp := grd_p H; exact hp) | replace H := grd_k H | replace H := out_step H (by assumption) | (replace H := bind_some H; obtain ⟨_, _, H⟩ := H))); done) | (repeat (first | exact grd_p H | replace H := grd_k H | replace H := out_step H (by assumption)))))
    | (with_reducible exact True.intro)
    | ((conv => whnf); first
        | (with_reducible refine And.intro ?_ ?_)
        | (with_reducible exact True.intro)
        | ((with_reducible refine Ob.mk ?_); first | (with_reducible rfl) | (first | ((repeat (first | (with_reducible exact grd_p H) | (replace H := grd_k H) | (replace H := out_step H (by assumption)))); done) | rfl | ((repeat (first | exact grd_p H | replace H := grd_k H | replace H := out_step H (by assumption))); done) | ((repeat (first | exact grd_p H | (have hp := grd_p H; exact hp) | replace H := grd_k H | replace H := out_step H (by assumption) | (replace H := bind_some H; obtain ⟨_, _, H⟩ := H))); done) | (repeat (first | exact grd_p H | replace H := grd_k H | replace H := out_step H (by assumption)))))
        | ((with_reducible refine fin_mk ?_); (repeat (first | replace H := grd_k H | replace H := out_step H (by assumption))); have H := Option.some.inj H; subst H))
    | constructor
def G10 : Env := G9.add 50 [] spec_l1Least.S
theorem G10_ok : EnvOk Tryd.prog G10 := G9_ok.add ent_50 fun ar h r h1 ⟨a0, a1, y, hy, e1, e2, e3, e4⟩ => by
  subst e3 e4; exact (spec_l1Least.spec a0 a1 y hy).le e1 e2
attribute [local irreducible] spec_l1Least

noncomputable def spec_l21Move (a0 : GripState) (a1 : GripStep) : Option (GripState × Bool) :=
  ((cond (decide (a1.1 = (2 : Int))) (cond (decide (a0.2.1 = (1 : Int))) ((some (decide (a0.1 = (0 : Int))))) ((some false))) ((some false))).bind fun z1 => (cond z1 ((some (((1 : Int), a0.2.1, a0.2.2.1, a0.2.2.2.1, ()), true))) ((cond (decide (a1.1 = (2 : Int))) (cond (decide (a0.2.1 = (1 : Int))) ((some (decide (a0.1 = (1 : Int))))) ((some false))) ((some false))).bind fun z2 => (cond z2 ((some (((2 : Int), a0.2.1, a1.2.1, a0.2.2.2.1, ()), true))) ((cond (decide (a1.1 = (3 : Int))) (cond (decide (a0.1 = (2 : Int))) (cond (decide (a0.2.1 = (1 : Int))) ((some true)) ((some (decide (a0.2.1 = (3 : Int)))))) ((some false))) ((some false))).bind fun z3 => (cond z3 ((some (((3 : Int), a0.2.1, (0 : Int), a0.2.2.2.1, ()), true))) (cond (decide (a1.1 = (3 : Int))) (cond (decide (a0.1 = (3 : Int))) ((some (((0 : Int), a0.2.1, a0.2.2.1, a0.2.2.2.1, ()), true))) ((some ((a0.1, a0.2.1, a0.2.2.1, a0.2.2.2.1, ()), false)))) ((some ((a0.1, a0.2.1, a0.2.2.1, a0.2.2.2.1, ()), false))))))))))
def spec_l21Move.res (_ : GripState) (_ : GripStep) (y : GripState × Bool) : AV := (.tup [(.agg [(.v (.int .i64 y.1.1)), (.v (.int .i64 y.1.2.1)), (.v (.int .i64 y.1.2.2.1)), (.v (.int .i64 y.1.2.2.2.1))]), (.bl y.2)])
def spec_l21Move.out (_ : GripState) (_ : GripStep) (_ : GripState × Bool) : List (Option LB) := []
def spec_l21Move.S (ar : List AV) (h : List (Option LB)) (r : AV) (h1 : List (Option LB)) : Prop := ∃ a0 a1 y, spec_l21Move a0 a1 = some y ∧ leL ar [(.agg [(.v (.int .i64 a0.1)), (.v (.int .i64 a0.2.1)), (.v (.int .i64 a0.2.2.1)), (.v (.int .i64 a0.2.2.2.1))]), (.agg [(.v (.int .i64 a1.1)), (.v (.int .i64 a1.2.1))])] ∧ leH h [] ∧ r = spec_l21Move.res a0 a1 y ∧ h1 = spec_l21Move.out a0 a1 y
theorem spec_l21Move.call {ar : List AV} {h : List (Option LB)} {a0 : GripState} {a1 : GripStep} {y : GripState × Bool} (H : spec_l21Move a0 a1 = some y) (h0 : leLk ar [(.agg [(.v (.int .i64 a0.1)), (.v (.int .i64 a0.2.1)), (.v (.int .i64 a0.2.2.1)), (.v (.int .i64 a0.2.2.2.1))]), (.agg [(.v (.int .i64 a1.1)), (.v (.int .i64 a1.2.1))])] (leHk h [])) : spec_l21Move.S ar h (spec_l21Move.res a0 a1 y) (spec_l21Move.out a0 a1 y) := ⟨a0, a1, y, H, (args_ok h0).1, (args_ok h0).2, rfl, rfl⟩
set_option maxHeartbeats 100000000 in
set_option maxRecDepth 100000 in
theorem spec_l21Move.spec (a0 : GripState) (a1 : GripStep) (y : GripState × Bool) (H : spec_l21Move a0 a1 = some y) : Spec Tryd.prog 51 [(.agg [(.v (.int .i64 a0.1)), (.v (.int .i64 a0.2.1)), (.v (.int .i64 a0.2.2.1)), (.v (.int .i64 a0.2.2.2.1))]), (.agg [(.v (.int .i64 a1.1)), (.v (.int .i64 a1.2.1))])] [] (spec_l21Move.res a0 a1 y) (spec_l21Move.out a0 a1 y) := by
  refine spec_intro (G10_ok.at tok []) (ct := [(4, none), (6, none), (9, none)]) Tryd.func51 rfl (by kernel_rfl) (by kernel_rfl) rfl ?_
  repeat' first
    | ((with_reducible refine eqg ?_); exact rfl)
    | ((with_reducible refine KOb.mk ?_); kernel_rfl)
    | ((with_reducible intro h); (repeat (first | replace H := grd_k H | replace H := out_step H (by assumption))); first | replace H := cond_t h H | replace H := cond_f h H | exact absurd h (by decide) | skip)
    | ((with_reducible refine Ob.mk ?_); first | (with_reducible rfl) | (first | ((repeat (first | (with_reducible exact grd_p H) | (replace H := grd_k H) | (replace H := out_step H (by assumption)))); done) | rfl | ((repeat (first | exact grd_p H | replace H := grd_k H | replace H := out_step H (by assumption))); done) | ((repeat (first | exact grd_p H | (have hp := grd_p H; exact hp) | replace H := grd_k H | replace H := out_step H (by assumption) | (replace H := bind_some H; obtain ⟨_, _, H⟩ := H))); done) | (repeat (first | exact grd_p H | replace H := grd_k H | replace H := out_step H (by assumption)))))
    | (with_reducible exact True.intro)
    | ((conv => whnf); first
        | (with_reducible refine And.intro ?_ ?_)
        | (with_reducible exact True.intro)
        | ((with_reducible refine Ob.mk ?_); first | (with_reducible rfl) | (first | ((repeat (first | (with_reducible exact grd_p H) | (replace H := grd_k H) | (replace H := out_step H (by assumption)))); done) | rfl | ((repeat (first | exact grd_p H | replace H := grd_k H | replace H := out_step H (by assumption))); done) | ((repeat (first | exact grd_p H | (have hp := grd_p H; exact hp) | replace H := grd_k H | replace H := out_step H (by assumption) | (replace H := bind_some H; obtain ⟨_, _, H⟩ := H))); done) | (repeat (first | exact grd_p H | replace H := grd_k H | replace H := out_step H (by assumption)))))
        | ((with_reducible refine cutAt (id := 4) ?_); (repeat (first | replace H := grd_k H | replace H := out_step H (by assumption))); first | (replace H := bind_some H; obtain ⟨z, hz, H⟩ := H; refine CutC.mk (id := 4) ⟨sl [(2, (.loc 0 0 0)), (3, (.loc 1 0 0)), (4, (.loc 2 0 0)), (6, (.loc 3 0 0)), (9, (.bl z))], [some (.box 25 [(.v (.int .i64 a0.1)), (.v (.int .i64 a0.2.1)), (.v (.int .i64 a0.2.2.1)), (.v (.int .i64 a0.2.2.2.1))]), some (.box 30 [(.v (.int .i64 a1.1)), (.v (.int .i64 a1.2.1))]), some (.box 25 [(.v (.int .i64 (0 : Int))), (.v (.int .i64 (0 : Int))), (.v (.int .i64 (0 : Int))), (.v (.int .i64 (0 : Int)))]), some (.box 25 [(.v (.int .i64 a0.1)), (.v (.int .i64 a0.2.1)), (.v (.int .i64 a0.2.2.1)), (.v (.int .i64 a0.2.2.2.1))])]⟩ ?_ ?_; (replace H := hz)))
        | ((with_reducible refine cutAt (id := 6) ?_); (repeat (first | replace H := grd_k H | replace H := out_step H (by assumption))); first | (replace H := bind_some H; obtain ⟨z, hz, H⟩ := H; refine CutC.mk (id := 6) ⟨sl [(2, (.loc 0 0 0)), (3, (.loc 1 0 0)), (4, (.loc 2 0 0)), (6, (.loc 3 0 0)), (24, (.bl z))], [some (.box 25 [(.v (.int .i64 a0.1)), (.v (.int .i64 a0.2.1)), (.v (.int .i64 a0.2.2.1)), (.v (.int .i64 a0.2.2.2.1))]), some (.box 30 [(.v (.int .i64 a1.1)), (.v (.int .i64 a1.2.1))]), some (.box 25 [(.v (.int .i64 (0 : Int))), (.v (.int .i64 (0 : Int))), (.v (.int .i64 (0 : Int))), (.v (.int .i64 (0 : Int)))]), some (.box 25 [(.v (.int .i64 a0.1)), (.v (.int .i64 a0.2.1)), (.v (.int .i64 a0.2.2.1)), (.v (.int .i64 a0.2.2.2.1))])]⟩ ?_ ?_; (replace H := hz)))
        | ((with_reducible refine cutAt (id := 9) ?_); (repeat (first | replace H := grd_k H | replace H := out_step H (by assumption))); first | (replace H := bind_some H; obtain ⟨z, hz, H⟩ := H; refine CutC.mk (id := 9) ⟨sl [(2, (.loc 0 0 0)), (3, (.loc 1 0 0)), (4, (.loc 2 0 0)), (6, (.loc 3 0 0)), (42, (.bl z))], [some (.box 25 [(.v (.int .i64 a0.1)), (.v (.int .i64 a0.2.1)), (.v (.int .i64 a0.2.2.1)), (.v (.int .i64 a0.2.2.2.1))]), some (.box 30 [(.v (.int .i64 a1.1)), (.v (.int .i64 a1.2.1))]), some (.box 25 [(.v (.int .i64 (0 : Int))), (.v (.int .i64 (0 : Int))), (.v (.int .i64 (0 : Int))), (.v (.int .i64 (0 : Int)))]), some (.box 25 [(.v (.int .i64 a0.1)), (.v (.int .i64 a0.2.1)), (.v (.int .i64 a0.2.2.1)), (.v (.int .i64 a0.2.2.2.1))])]⟩ ?_ ?_; (replace H := hz)))
        | ((repeat (first | replace H := grd_k H | replace H := out_step H (by assumption))); have H := Option.some.inj H; subst H; with_reducible refine sub_auto ?_)
        | ((with_reducible refine fin_mk ?_); (repeat (first | replace H := grd_k H | replace H := out_step H (by assumption))); have H := Option.some.inj H; subst H))
    | constructor
def G11 : Env := G10.add 51 [] spec_l21Move.S
theorem G11_ok : EnvOk Tryd.prog G11 := G10_ok.add ent_51 fun ar h r h1 ⟨a0, a1, y, hy, e1, e2, e3, e4⟩ => by
  subst e3 e4; exact (spec_l21Move.spec a0 a1 y hy).le e1 e2
attribute [local irreducible] spec_l21Move

noncomputable def spec_l21Make (a0 : GripState) (a1 : GripStep) : Option (GripState × Bool) :=
  (cond (decide (a1.1 = (1 : Int))) (grd ((4 : Int) ≠ 0) ((spec_l21Good (a0.1, (Int.tmod (w64 (a0.2.1 + (1 : Int))) (4 : Int)), a0.2.2.1, a0.2.2.2.1, ())).bind fun y1 => (cond y1 ((some ((a0.1, (Int.tmod (w64 (a0.2.1 + (1 : Int))) (4 : Int)), a0.2.2.1, a0.2.2.2.1, ()), (!decide (a0.1 = (4 : Int)))))) ((some ((a0.1, (Int.tmod (w64 (a0.2.1 + (1 : Int))) (4 : Int)), a0.2.2.1, a0.2.2.2.1, ()), false)))))) (cond (decide (a1.1 = (4 : Int))) ((cond (decide (a0.2.2.1 < (500 : Int))) ((spec_l1Least (3 : Int) (w64 (a0.2.2.2.1 + (1 : Int)))).bind fun y2 => (some ((3 : Int), (0 : Int), y2))) ((some (a0.1, a0.2.2.1, (0 : Int))))).bind fun z3 => (cond (decide (a0.2.1 = (1 : Int))) ((some ((z3.1, a0.2.1, z3.2.1, z3.2.2, ()), (decide (a0.1 = (2 : Int)))))) ((some ((z3.1, a0.2.1, z3.2.1, z3.2.2, ()), false))))) (cond (decide (a1.1 = (5 : Int))) (cond (decide (a0.1 = (4 : Int))) ((some (((0 : Int), a0.2.1, a0.2.2.1, (0 : Int), ()), (decide (a0.2.1 = (0 : Int)))))) (cond (decide (a0.2.1 = (0 : Int))) ((some (((4 : Int), a0.2.1, a0.2.2.1, a0.2.2.2.1, ()), (decide (a0.2.2.2.1 = (3 : Int)))))) ((some (((4 : Int), a0.2.1, a0.2.2.1, a0.2.2.2.1, ()), false))))) ((spec_l21Move (a0.1, a0.2.1, a0.2.2.1, a0.2.2.2.1, ()) (a1.1, a1.2.1, ())).bind fun y4 => (some ((y4.1.1, y4.1.2.1, y4.1.2.2.1, y4.1.2.2.2.1, ()), y4.2))))))
def spec_l21Make.res (_ : GripState) (_ : GripStep) (y : GripState × Bool) : AV := (.tup [(.agg [(.v (.int .i64 y.1.1)), (.v (.int .i64 y.1.2.1)), (.v (.int .i64 y.1.2.2.1)), (.v (.int .i64 y.1.2.2.2.1))]), (.bl y.2)])
def spec_l21Make.out (_ : GripState) (_ : GripStep) (_ : GripState × Bool) : List (Option LB) := []
def spec_l21Make.S (ar : List AV) (h : List (Option LB)) (r : AV) (h1 : List (Option LB)) : Prop := ∃ a0 a1 y, spec_l21Make a0 a1 = some y ∧ leL ar [(.agg [(.v (.int .i64 a0.1)), (.v (.int .i64 a0.2.1)), (.v (.int .i64 a0.2.2.1)), (.v (.int .i64 a0.2.2.2.1))]), (.agg [(.v (.int .i64 a1.1)), (.v (.int .i64 a1.2.1))])] ∧ leH h [] ∧ r = spec_l21Make.res a0 a1 y ∧ h1 = spec_l21Make.out a0 a1 y
theorem spec_l21Make.call {ar : List AV} {h : List (Option LB)} {a0 : GripState} {a1 : GripStep} {y : GripState × Bool} (H : spec_l21Make a0 a1 = some y) (h0 : leLk ar [(.agg [(.v (.int .i64 a0.1)), (.v (.int .i64 a0.2.1)), (.v (.int .i64 a0.2.2.1)), (.v (.int .i64 a0.2.2.2.1))]), (.agg [(.v (.int .i64 a1.1)), (.v (.int .i64 a1.2.1))])] (leHk h [])) : spec_l21Make.S ar h (spec_l21Make.res a0 a1 y) (spec_l21Make.out a0 a1 y) := ⟨a0, a1, y, H, (args_ok h0).1, (args_ok h0).2, rfl, rfl⟩
set_option maxHeartbeats 100000000 in
set_option maxRecDepth 100000 in
theorem spec_l21Make.spec (a0 : GripState) (a1 : GripStep) (y : GripState × Bool) (H : spec_l21Make a0 a1 = some y) : Spec Tryd.prog 38 [(.agg [(.v (.int .i64 a0.1)), (.v (.int .i64 a0.2.1)), (.v (.int .i64 a0.2.2.1)), (.v (.int .i64 a0.2.2.2.1))]), (.agg [(.v (.int .i64 a1.1)), (.v (.int .i64 a1.2.1))])] [] (spec_l21Make.res a0 a1 y) (spec_l21Make.out a0 a1 y) := by
  refine spec_intro (G11_ok.at tok []) (ct := [(12, none), (5, some [2, 4, 6, 23, 24, 25]), (8, some [2, 4, 6, 31, 45, 46, 47]), (14, some [2, 3, 4, 6, 49, 66, 67, 68]), (20, some [2, 3, 4])]) Tryd.func38 rfl (by kernel_rfl) (by kernel_rfl) rfl ?_
  repeat' first
    | ((with_reducible refine eqg ?_); exact rfl)
    | ((with_reducible refine KOb.mk ?_); kernel_rfl)
    | ((with_reducible intro h); (repeat (first | replace H := grd_k H | replace H := out_step H (by assumption))); first | replace H := cond_t h H | replace H := cond_f h H | exact absurd h (by decide) | skip)
    | ((with_reducible refine Ob.mk ?_); first | (with_reducible rfl) | (first | ((repeat (first | (with_reducible exact grd_p H) | (replace H := grd_k H) | (replace H := out_step H (by assumption)))); done) | rfl | ((repeat (first | exact grd_p H | replace H := grd_k H | replace H := out_step H (by assumption))); done) | ((repeat (first | exact grd_p H | (have hp := grd_p H; exact hp) | replace H := grd_k H | replace H := out_step H (by assumption) | (replace H := bind_some H; obtain ⟨_, _, H⟩ := H))); done) | (repeat (first | exact grd_p H | replace H := grd_k H | replace H := out_step H (by assumption)))))
    | (with_reducible exact True.intro)
    | ((conv => whnf); first
        | (with_reducible refine And.intro ?_ ?_)
        | (with_reducible exact True.intro)
        | ((with_reducible refine Ob.mk ?_); first | (with_reducible rfl) | (first | ((repeat (first | (with_reducible exact grd_p H) | (replace H := grd_k H) | (replace H := out_step H (by assumption)))); done) | rfl | ((repeat (first | exact grd_p H | replace H := grd_k H | replace H := out_step H (by assumption))); done) | ((repeat (first | exact grd_p H | (have hp := grd_p H; exact hp) | replace H := grd_k H | replace H := out_step H (by assumption) | (replace H := bind_some H; obtain ⟨_, _, H⟩ := H))); done) | (repeat (first | exact grd_p H | replace H := grd_k H | replace H := out_step H (by assumption)))))
        | ((with_reducible refine CallW.mk ?_); (repeat (first | replace H := grd_k H | replace H := out_step H (by assumption))); replace H := bind_some H; obtain ⟨y, hy, H⟩ := H; first | ((with_reducible have hz : spec_l21Good _ = some y := hy); clear hz; refine Exists.intro _ (Exists.intro _ ⟨spec_l21Good.call hy ?_, rfl, rfl, ?_⟩)) | ((with_reducible have hz : spec_l1Least _ _ = some y := hy); clear hz; refine Exists.intro _ (Exists.intro _ ⟨spec_l1Least.call hy ?_, rfl, rfl, ?_⟩)) | ((with_reducible have hz : spec_l21Move _ _ = some y := hy); clear hz; refine Exists.intro _ (Exists.intro _ ⟨spec_l21Move.call hy ?_, rfl, rfl, ?_⟩)))
        | ((with_reducible refine cutAt (id := 12) ?_); (repeat (first | replace H := grd_k H | replace H := out_step H (by assumption))); first | (replace H := bind_some H; obtain ⟨z, hz, H⟩ := H; refine CutC.mk (id := 12) ⟨sl [(2, (.loc 0 0 0)), (4, (.loc 1 0 0)), (6, (.loc 2 0 0))], [some (.box 25 [(.v (.int .i64 a0.1)), (.v (.int .i64 a0.2.1)), (.v (.int .i64 a0.2.2.1)), (.v (.int .i64 a0.2.2.2.1))]), some (.box 25 [(.v (.int .i64 (0 : Int))), (.v (.int .i64 (0 : Int))), (.v (.int .i64 (0 : Int))), (.v (.int .i64 (0 : Int)))]), some (.box 25 [(.v (.int .i64 z.1)), (.v (.int .i64 a0.2.1)), (.v (.int .i64 z.2.1)), (.v (.int .i64 z.2.2))])]⟩ ?_ ?_; (replace H := hz)))
        | ((repeat (first | replace H := grd_k H | replace H := out_step H (by assumption))); have H := Option.some.inj H; subst H; with_reducible refine sub_auto ?_)
        | ((with_reducible refine fin_mk ?_); (repeat (first | replace H := grd_k H | replace H := out_step H (by assumption))); have H := Option.some.inj H; subst H))
    | constructor
def G12 : Env := G11.add 38 [] spec_l21Make.S
theorem G12_ok : EnvOk Tryd.prog G12 := G11_ok.add ent_38 fun ar h r h1 ⟨a0, a1, y, hy, e1, e2, e3, e4⟩ => by
  subst e3 e4; exact (spec_l21Make.spec a0 a1 y hy).le e1 e2
attribute [local irreducible] spec_l21Make

noncomputable def spec_StepGrip (a0 : GripState) (a1 : GripStep) : Option (GripState × Bool) :=
  ((spec_l21Good (a0.1, a0.2.1, a0.2.2.1, a0.2.2.2.1, ())).bind fun y1 => (cond (!y1) ((some (((0 : Int), (0 : Int), (0 : Int), (0 : Int), ()), false))) ((spec_l21Step (a0.1, a0.2.1, a0.2.2.1, a0.2.2.2.1, ()) (a1.1, a1.2.1, ())).bind fun y2 => (cond (!y2) ((some (((0 : Int), (0 : Int), (0 : Int), (0 : Int), ()), false))) ((spec_l21Make (a0.1, a0.2.1, a0.2.2.1, a0.2.2.2.1, ()) (a1.1, a1.2.1, ())).bind fun y3 => (cond (!y3.2) ((some (((0 : Int), (0 : Int), (0 : Int), (0 : Int), ()), false))) ((some ((y3.1.1, y3.1.2.1, y3.1.2.2.1, y3.1.2.2.2.1, ()), true)))))))))
def spec_StepGrip.res (_ : GripState) (_ : GripStep) (y : GripState × Bool) : AV := (.tup [(.agg [(.v (.int .i64 y.1.1)), (.v (.int .i64 y.1.2.1)), (.v (.int .i64 y.1.2.2.1)), (.v (.int .i64 y.1.2.2.2.1))]), (.bl y.2)])
def spec_StepGrip.out (_ : GripState) (_ : GripStep) (_ : GripState × Bool) : List (Option LB) := []
def spec_StepGrip.S (ar : List AV) (h : List (Option LB)) (r : AV) (h1 : List (Option LB)) : Prop := ∃ a0 a1 y, spec_StepGrip a0 a1 = some y ∧ leL ar [(.agg [(.v (.int .i64 a0.1)), (.v (.int .i64 a0.2.1)), (.v (.int .i64 a0.2.2.1)), (.v (.int .i64 a0.2.2.2.1))]), (.agg [(.v (.int .i64 a1.1)), (.v (.int .i64 a1.2.1))])] ∧ leH h [] ∧ r = spec_StepGrip.res a0 a1 y ∧ h1 = spec_StepGrip.out a0 a1 y
theorem spec_StepGrip.call {ar : List AV} {h : List (Option LB)} {a0 : GripState} {a1 : GripStep} {y : GripState × Bool} (H : spec_StepGrip a0 a1 = some y) (h0 : leLk ar [(.agg [(.v (.int .i64 a0.1)), (.v (.int .i64 a0.2.1)), (.v (.int .i64 a0.2.2.1)), (.v (.int .i64 a0.2.2.2.1))]), (.agg [(.v (.int .i64 a1.1)), (.v (.int .i64 a1.2.1))])] (leHk h [])) : spec_StepGrip.S ar h (spec_StepGrip.res a0 a1 y) (spec_StepGrip.out a0 a1 y) := ⟨a0, a1, y, H, (args_ok h0).1, (args_ok h0).2, rfl, rfl⟩
set_option maxHeartbeats 100000000 in
set_option maxRecDepth 100000 in
theorem spec_StepGrip.spec (a0 : GripState) (a1 : GripStep) (y : GripState × Bool) (H : spec_StepGrip a0 a1 = some y) : Spec Tryd.prog 43 [(.agg [(.v (.int .i64 a0.1)), (.v (.int .i64 a0.2.1)), (.v (.int .i64 a0.2.2.1)), (.v (.int .i64 a0.2.2.2.1))]), (.agg [(.v (.int .i64 a1.1)), (.v (.int .i64 a1.2.1))])] [] (spec_StepGrip.res a0 a1 y) (spec_StepGrip.out a0 a1 y) := by
  refine spec_intro (G12_ok.at tok []) (ct := [(3, some [2, 3, 4])]) Tryd.func43 rfl (by kernel_rfl) (by kernel_rfl) rfl ?_
  repeat' first
    | ((with_reducible refine eqg ?_); exact rfl)
    | ((with_reducible refine KOb.mk ?_); kernel_rfl)
    | ((with_reducible intro h); (repeat (first | replace H := grd_k H | replace H := out_step H (by assumption))); first | replace H := cond_t h H | replace H := cond_f h H | exact absurd h (by decide) | skip)
    | ((with_reducible refine Ob.mk ?_); first | (with_reducible rfl) | (first | ((repeat (first | (with_reducible exact grd_p H) | (replace H := grd_k H) | (replace H := out_step H (by assumption)))); done) | rfl | ((repeat (first | exact grd_p H | replace H := grd_k H | replace H := out_step H (by assumption))); done) | ((repeat (first | exact grd_p H | (have hp := grd_p H; exact hp) | replace H := grd_k H | replace H := out_step H (by assumption) | (replace H := bind_some H; obtain ⟨_, _, H⟩ := H))); done) | (repeat (first | exact grd_p H | replace H := grd_k H | replace H := out_step H (by assumption)))))
    | (with_reducible exact True.intro)
    | ((conv => whnf); first
        | (with_reducible refine And.intro ?_ ?_)
        | (with_reducible exact True.intro)
        | ((with_reducible refine Ob.mk ?_); first | (with_reducible rfl) | (first | ((repeat (first | (with_reducible exact grd_p H) | (replace H := grd_k H) | (replace H := out_step H (by assumption)))); done) | rfl | ((repeat (first | exact grd_p H | replace H := grd_k H | replace H := out_step H (by assumption))); done) | ((repeat (first | exact grd_p H | (have hp := grd_p H; exact hp) | replace H := grd_k H | replace H := out_step H (by assumption) | (replace H := bind_some H; obtain ⟨_, _, H⟩ := H))); done) | (repeat (first | exact grd_p H | replace H := grd_k H | replace H := out_step H (by assumption)))))
        | ((with_reducible refine CallW.mk ?_); (repeat (first | replace H := grd_k H | replace H := out_step H (by assumption))); replace H := bind_some H; obtain ⟨y, hy, H⟩ := H; first | ((with_reducible have hz : spec_l21Good _ = some y := hy); clear hz; refine Exists.intro _ (Exists.intro _ ⟨spec_l21Good.call hy ?_, rfl, rfl, ?_⟩)) | ((with_reducible have hz : spec_l21Step _ _ = some y := hy); clear hz; refine Exists.intro _ (Exists.intro _ ⟨spec_l21Step.call hy ?_, rfl, rfl, ?_⟩)) | ((with_reducible have hz : spec_l21Make _ _ = some y := hy); clear hz; refine Exists.intro _ (Exists.intro _ ⟨spec_l21Make.call hy ?_, rfl, rfl, ?_⟩)))
        | ((with_reducible refine fin_mk ?_); (repeat (first | replace H := grd_k H | replace H := out_step H (by assumption))); have H := Option.some.inj H; subst H))
    | constructor
def G13 : Env := G12.add 43 [] spec_StepGrip.S
theorem G13_ok : EnvOk Tryd.prog G13 := G12_ok.add ent_43 fun ar h r h1 ⟨a0, a1, y, hy, e1, e2, e3, e4⟩ => by
  subst e3 e4; exact (spec_StepGrip.spec a0 a1 y hy).le e1 e2
attribute [local irreducible] spec_StepGrip

noncomputable def spec_l1Cur_gripState_loop1  (v20 : Int) (v21 : (List Int)) (v22 : Int) (v23 : Int) (v24 : Int) (v25 : Int) (v26 : Int) (v27 : Int) : Option (Lp (Int × (List Int) × Int × Int × Int × Int × Int × Int) (((List Int) × Int × Int × Int × Int × Int × Int))) :=
  (cond (decide ((0 : Int) < v20)) ((spec_l1Cur_gripStep (v21, v22, v23, ()) (v24, v25, v26, v27, ())).bind fun y28 => ((spec_StepGrip (v24, v25, v26, v27, ()) (y28.1.1, y28.1.2.1, ())).bind fun y29 => (cond y29.2 (some (.go ((w64 (v20 - (1 : Int))), y28.2.1, y28.2.2.1, y28.2.2.2.1, y29.1.1, y29.1.2.1, y29.1.2.2.1, y29.1.2.2.2.1))) (some (.go ((w64 (v20 - (1 : Int))), y28.2.1, y28.2.2.1, y28.2.2.2.1, v24, v25, v26, v27)))))) ((some (.out (v21, v22, v23, v24, v25, v26, v27)))))
noncomputable def spec_l1Cur_gripState (a0 : l1Cur) : Option (GripState × l1Cur) :=
  ((spec_l1Cur_among (a0.1, a0.2.1, a0.2.2.1, ()) [(0 : Int), (0 : Int), (1 : Int), (3 : Int)]).bind fun y1 => ((spec_l1Cur_pick (y1.2.1, y1.2.2.1, y1.2.2.2.1, ()) (12 : Int)).bind fun y2 => ((iter (fun s => spec_l1Cur_gripState_loop1 s.1 s.2.1 s.2.2.1 s.2.2.2.1 s.2.2.2.2.1 s.2.2.2.2.2.1 s.2.2.2.2.2.2.1 s.2.2.2.2.2.2.2) (y2.1, y2.2.1, y2.2.2.1, y2.2.2.2.1, (0 : Int), (0 : Int), (0 : Int), y1.1)).bind (fun r30 => ((spec_l1Cur_pick (r30.1, r30.2.1, r30.2.2.1, ()) (24 : Int)).bind fun y31 => (cond (decide (y31.1 = (0 : Int))) ((spec_l1Cur_among (y31.2.1, y31.2.2.1, y31.2.2.2.1, ()) [((-1) : Int), (0 : Int), (2 : Int), (4 : Int), (5 : Int)]).bind fun y32 => (some ((y32.1, r30.2.2.2.2.1, r30.2.2.2.2.2.1, r30.2.2.2.2.2.2, ()), (y32.2.1, y32.2.2.1, y32.2.2.2.1, ())))) (cond (decide (y31.1 = (1 : Int))) ((spec_l1Cur_among (y31.2.1, y31.2.2.1, y31.2.2.2.1, ()) [((-1) : Int), (0 : Int), (1 : Int), (2 : Int), (3 : Int), (4 : Int)]).bind fun y33 => (some ((r30.2.2.2.1, y33.1, r30.2.2.2.2.2.1, r30.2.2.2.2.2.2, ()), (y33.2.1, y33.2.2.1, y33.2.2.2.1, ())))) (cond (decide (y31.1 = (2 : Int))) ((spec_l1Cur_among (y31.2.1, y31.2.2.1, y31.2.2.2.1, ()) [((-1) : Int), (0 : Int), (500 : Int), (2000 : Int), (2001 : Int)]).bind fun y34 => (some ((r30.2.2.2.1, r30.2.2.2.2.1, y34.1, r30.2.2.2.2.2.2, ()), (y34.2.1, y34.2.2.1, y34.2.2.2.1, ())))) (cond (decide (y31.1 = (3 : Int))) ((spec_l1Cur_among (y31.2.1, y31.2.2.1, y31.2.2.2.1, ()) [((-1) : Int), (4 : Int)]).bind fun y35 => (some ((r30.2.2.2.1, r30.2.2.2.2.1, r30.2.2.2.2.2.1, y35.1, ()), (y35.2.1, y35.2.2.1, y35.2.2.2.1, ())))) ((some ((r30.2.2.2.1, r30.2.2.2.2.1, r30.2.2.2.2.2.1, r30.2.2.2.2.2.2, ()), (y31.2.1, y31.2.2.1, y31.2.2.2.1, ())))))))))))))
def spec_l1Cur_gripState.res (_ : l1Cur) (y : GripState × l1Cur) : AV := (.agg [(.v (.int .i64 y.1.1)), (.v (.int .i64 y.1.2.1)), (.v (.int .i64 y.1.2.2.1)), (.v (.int .i64 y.1.2.2.2.1))])
def spec_l1Cur_gripState.out (_ : l1Cur) (y : GripState × l1Cur) : List (Option LB) := [some (.box 45 [(.tree (.int .u8) y.2.1), (.v (.int .i64 y.2.2.1)), (.v (.int .u64 y.2.2.2.1))])]
def spec_l1Cur_gripState.S (ar : List AV) (h : List (Option LB)) (r : AV) (h1 : List (Option LB)) : Prop := ∃ a0 y, spec_l1Cur_gripState a0 = some y ∧ leL ar [(.loc 0 0 0)] ∧ leH h [some (.box 45 [(.tree (.int .u8) a0.1), (.v (.int .i64 a0.2.1)), (.v (.int .u64 a0.2.2.1))])] ∧ r = spec_l1Cur_gripState.res a0 y ∧ h1 = spec_l1Cur_gripState.out a0 y
theorem spec_l1Cur_gripState.call {ar : List AV} {h : List (Option LB)} {a0 : l1Cur} {y : GripState × l1Cur} (H : spec_l1Cur_gripState a0 = some y) (h0 : leLk ar [(.loc 0 0 0)] (leHk h [some (.box 45 [(.tree (.int .u8) a0.1), (.v (.int .i64 a0.2.1)), (.v (.int .u64 a0.2.2.1))])])) : spec_l1Cur_gripState.S ar h (spec_l1Cur_gripState.res a0 y) (spec_l1Cur_gripState.out a0 y) := ⟨a0, y, H, (args_ok h0).1, (args_ok h0).2, rfl, rfl⟩
set_option maxHeartbeats 100000000 in
set_option maxRecDepth 100000 in
theorem spec_l1Cur_gripState.spec (a0 : l1Cur) (y : GripState × l1Cur) (H : spec_l1Cur_gripState a0 = some y) : Spec Tryd.prog 23 [(.loc 0 0 0)] [some (.box 45 [(.tree (.int .u8) a0.1), (.v (.int .i64 a0.2.1)), (.v (.int .u64 a0.2.2.1))])] (spec_l1Cur_gripState.res a0 y) (spec_l1Cur_gripState.out a0 y) := by
  refine spec_intro (G13_ok.at tok []) (ct := [(4, some [0, 2, 3, 4]), (10, some [0, 2, 3, 28, 29])]) Tryd.func23 rfl (by kernel_rfl) (by kernel_rfl) rfl ?_
  repeat' first
    | ((with_reducible refine eqg ?_); exact rfl)
    | ((with_reducible refine KOb.mk ?_); kernel_rfl)
    | ((with_reducible intro h); (repeat (first | replace H := grd_k H | replace H := out_step H (by assumption))); first | replace H := cond_t h H | replace H := cond_f h H | exact absurd h (by decide) | skip)
    | ((with_reducible refine Ob.mk ?_); first | (with_reducible rfl) | (first | ((repeat (first | (with_reducible exact grd_p H) | (replace H := grd_k H) | (replace H := out_step H (by assumption)))); done) | rfl | ((repeat (first | exact grd_p H | replace H := grd_k H | replace H := out_step H (by assumption))); done) | ((repeat (first | exact grd_p H | (have hp := grd_p H; exact hp) | replace H := grd_k H | replace H := out_step H (by assumption) | (replace H := bind_some H; obtain ⟨_, _, H⟩ := H))); done) | (repeat (first | exact grd_p H | replace H := grd_k H | replace H := out_step H (by assumption)))))
    | (with_reducible exact True.intro)
    | ((conv => whnf); first
        | (with_reducible refine And.intro ?_ ?_)
        | (with_reducible exact True.intro)
        | ((with_reducible refine Ob.mk ?_); first | (with_reducible rfl) | (first | ((repeat (first | (with_reducible exact grd_p H) | (replace H := grd_k H) | (replace H := out_step H (by assumption)))); done) | rfl | ((repeat (first | exact grd_p H | replace H := grd_k H | replace H := out_step H (by assumption))); done) | ((repeat (first | exact grd_p H | (have hp := grd_p H; exact hp) | replace H := grd_k H | replace H := out_step H (by assumption) | (replace H := bind_some H; obtain ⟨_, _, H⟩ := H))); done) | (repeat (first | exact grd_p H | replace H := grd_k H | replace H := out_step H (by assumption)))))
        | ((with_reducible refine CallW.mk ?_); (repeat (first | replace H := grd_k H | replace H := out_step H (by assumption))); replace H := bind_some H; obtain ⟨y, hy, H⟩ := H; first | ((with_reducible have hz : spec_l1Cur_among _ _ = some y := hy); clear hz; refine Exists.intro _ (Exists.intro _ ⟨spec_l1Cur_among.call hy ?_, rfl, rfl, ?_⟩)) | ((with_reducible have hz : spec_l1Cur_pick _ _ = some y := hy); clear hz; refine Exists.intro _ (Exists.intro _ ⟨spec_l1Cur_pick.call hy ?_, rfl, rfl, ?_⟩)) | ((with_reducible have hz : spec_l1Cur_gripStep _ _ = some y := hy); clear hz; refine Exists.intro _ (Exists.intro _ ⟨spec_l1Cur_gripStep.call hy ?_, rfl, rfl, ?_⟩)) | ((with_reducible have hz : spec_StepGrip _ _ = some y := hy); clear hz; refine Exists.intro _ (Exists.intro _ ⟨spec_StepGrip.call hy ?_, rfl, rfl, ?_⟩)))
        | ((repeat (first | replace H := grd_k H | replace H := out_step H (by assumption))); refine loop_iter (G13_ok.at tok []) (ct := [(4, some [0, 2, 3, 4]), (10, some [0, 2, 3, 28, 29])]) (F := (fun s1 : Int × (List Int) × Int × Int × Int × Int × Int × Int => ⟨sl [(0, (.loc 0 0 0)), (2, (.loc 1 0 0)), (3, (.loc 2 0 0)), (4, (.v (.int .i64 s1.1)))], [some (.box 45 [(.tree (.int .u8) s1.2.1), (.v (.int .i64 s1.2.2.1)), (.v (.int .u64 s1.2.2.2.1))]), some (.box 25 [(.v (.int .i64 (0 : Int))), (.v (.int .i64 (0 : Int))), (.v (.int .i64 (0 : Int))), (.v (.int .i64 (0 : Int)))]), some (.box 25 [(.v (.int .i64 s1.2.2.2.2.1)), (.v (.int .i64 s1.2.2.2.2.2.1)), (.v (.int .i64 s1.2.2.2.2.2.2.1)), (.v (.int .i64 s1.2.2.2.2.2.2.2))])]⟩)) (step := (fun s : Int × (List Int) × Int × Int × Int × Int × Int × Int => spec_l1Cur_gripState_loop1 s.1 s.2.1 s.2.2.1 s.2.2.2.1 s.2.2.2.2.1 s.2.2.2.2.2.1 s.2.2.2.2.2.2.1 s.2.2.2.2.2.2.2)) _ H (by kernel_rfl) (sub_auto ?_) ?_; rotate_left; (intro s1 r v hr H); rotate_right)
        | ((repeat (first | replace H := grd_k H | replace H := out_step H (by assumption))); refine again_step H (by assumption) (sub_auto ?_))
        | ((with_reducible refine fin_mk ?_); (repeat (first | replace H := grd_k H | replace H := out_step H (by assumption))); have H := Option.some.inj H; subst H))
    | constructor
def G14 : Env := G13.add 23 [true] spec_l1Cur_gripState.S
theorem G14_ok : EnvOk Tryd.prog G14 := G13_ok.add ent_23 fun ar h r h1 ⟨a0, y, hy, e1, e2, e3, e4⟩ => by
  subst e3 e4; exact (spec_l1Cur_gripState.spec a0 y hy).le e1 e2
attribute [local irreducible] spec_l1Cur_gripState

end Go.Proofs.YtbjhcjhkmppocaaDoor
