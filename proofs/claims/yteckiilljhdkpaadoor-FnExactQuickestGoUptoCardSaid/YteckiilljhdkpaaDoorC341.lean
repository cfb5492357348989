/-
  Contracts, printed by a program.
-/
import Derived.Test.YteckiilljhdkpaaDoorTy
namespace Go.Proofs.YteckiilljhdkpaaDoor
open Go.RowKit
attribute [local irreducible] Ob loopwp Sub Spec Fin Again CallW CutC KOb iter joinx outm

noncomputable def laws_toPlatform (a0 : Platform) : Option (Platform) :=
  (some (a0.1, a0.2.1, a0.2.2.1, a0.2.2.2.1, a0.2.2.2.2.1, a0.2.2.2.2.2.1, ()))
def laws_toPlatform.res (_ : Platform) (y : Platform) : AV := (.agg [(.v (.int .i64 y.1)), (.v (.int .i64 y.2.1)), (.v (.int .i64 y.2.2.1)), (.v (.int .i64 y.2.2.2.1)), (.bl y.2.2.2.2.1), (.v (.int .i64 y.2.2.2.2.2.1))])
def laws_toPlatform.out (_ : Platform) (_ : Platform) : List (Option LB) := []
def laws_toPlatform.S (ar : List AV) (h : List (Option LB)) (r : AV) (h1 : List (Option LB)) : Prop := ∃ a0 y, laws_toPlatform a0 = some y ∧ leL ar [(.agg [(.v (.int .i64 a0.1)), (.v (.int .i64 a0.2.1)), (.v (.int .i64 a0.2.2.1)), (.v (.int .i64 a0.2.2.2.1)), (.bl a0.2.2.2.2.1), (.v (.int .i64 a0.2.2.2.2.2.1))])] ∧ leH h [] ∧ r = laws_toPlatform.res a0 y ∧ h1 = laws_toPlatform.out a0 y
theorem laws_toPlatform.call {ar : List AV} {h : List (Option LB)} {a0 : Platform} {y : Platform} (H : laws_toPlatform a0 = some y) (h0 : leLk ar [(.agg [(.v (.int .i64 a0.1)), (.v (.int .i64 a0.2.1)), (.v (.int .i64 a0.2.2.1)), (.v (.int .i64 a0.2.2.2.1)), (.bl a0.2.2.2.2.1), (.v (.int .i64 a0.2.2.2.2.2.1))])] (leHk h [])) : laws_toPlatform.S ar h (laws_toPlatform.res a0 y) (laws_toPlatform.out a0 y) := ⟨a0, y, H, (args_ok h0).1, (args_ok h0).2, rfl, rfl⟩
set_option maxHeartbeats 100000000 in
set_option maxRecDepth 100000 in
theorem laws_toPlatform.spec (a0 : Platform) (y : Platform) (H : laws_toPlatform a0 = some y) : Spec Tryd.prog 21 [(.agg [(.v (.int .i64 a0.1)), (.v (.int .i64 a0.2.1)), (.v (.int .i64 a0.2.2.1)), (.v (.int .i64 a0.2.2.2.1)), (.bl a0.2.2.2.2.1), (.v (.int .i64 a0.2.2.2.2.2.1))])] [] (laws_toPlatform.res a0 y) (laws_toPlatform.out a0 y) := by
  refine spec_intro (G0_ok.at tok []) (ct := [(6, some [1, 2, 3])]) Tryd.func21 rfl (by kernel_rfl) (by kernel_rfl) rfl ?_
  repeat' first
    | ((with_reducible refine eqg ?_); exact rfl)
    | ((with_reducible refine KOb.mk ?_); kernel_rfl)
    | ((with_reducible intro h); (repeat (first | replace H := grd_k H | replace H := out_step H (by assumption))); first | replace H := cond_t h H | replace H := cond_f h H | exact absurd h (by decide) | skip)
    | ((with_reducible refine Ob.mk ?_); first | (with_reducible rfl) | (first | ((repeat (first | (with_reducible exact grd_p H) | (replace H := grd_k H) | (replace H := out_step H (by assumption)))); done) | rfl | ((repeat (first | exact grd_p H | replace H := grd_k H | replace H := out_step H (by assumption))); done) | ((repeat (first | exact grd_p H | (have hp := grd_p H; exact hp) | replace H := grd_k H | replace H := out_step H (by assumption) | (replace H := bind_some H; obtain ⟨_, _, H⟩ := H))); done) | (repeat (first | exact grd_p H | replace H := grd_k H | replace H := out_step H (by assumption)))))
    | (with_reducible exact True.intro)
    | constructor
    | ((conv => whnf); first
        | ((with_reducible refine Ob.mk ?_); first | (with_reducible rfl) | (first | ((repeat (first | (with_reducible exact grd_p H) | (replace H := grd_k H) | (replace H := out_step H (by assumption)))); done) | rfl | ((repeat (first | exact grd_p H | replace H := grd_k H | replace H := out_step H (by assumption))); done) | ((repeat (first | exact grd_p H | (have hp := grd_p H; exact hp) | replace H := grd_k H | replace H := out_step H (by assumption) | (replace H := bind_some H; obtain ⟨_, _, H⟩ := H))); done) | (repeat (first | exact grd_p H | replace H := grd_k H | replace H := out_step H (by assumption)))))
        | ((with_reducible refine fin_mk ?_); (repeat (first | replace H := grd_k H | replace H := out_step H (by assumption))); have H := Option.some.inj H; subst H))
def G1 : Env := G0.add 21 [] laws_toPlatform.S
theorem G1_ok : EnvOk Tryd.prog G1 := G0_ok.add ent_21 fun ar h r h1 ⟨a0, y, hy, e1, e2, e3, e4⟩ => by
  subst e3 e4; exact (laws_toPlatform.spec a0 y hy).le e1 e2
attribute [local irreducible] laws_toPlatform

noncomputable def spec_l1In (a0 : Int) (a1 : Int) (a2 : Int) : Option (Bool) :=
  (cond (decide (a1 ≤ a0)) ((some (decide (a0 ≤ a2)))) ((some false)))
def spec_l1In.res (_ : Int) (_ : Int) (_ : Int) (y : Bool) : AV := (.bl y)
def spec_l1In.out (_ : Int) (_ : Int) (_ : Int) (_ : Bool) : List (Option LB) := []
def spec_l1In.S (ar : List AV) (h : List (Option LB)) (r : AV) (h1 : List (Option LB)) : Prop := ∃ a0 a1 a2 y, spec_l1In a0 a1 a2 = some y ∧ leL ar [(.v (.int .i64 a0)), (.v (.int .i64 a1)), (.v (.int .i64 a2))] ∧ leH h [] ∧ r = spec_l1In.res a0 a1 a2 y ∧ h1 = spec_l1In.out a0 a1 a2 y
theorem spec_l1In.call {ar : List AV} {h : List (Option LB)} {a0 : Int} {a1 : Int} {a2 : Int} {y : Bool} (H : spec_l1In a0 a1 a2 = some y) (h0 : leLk ar [(.v (.int .i64 a0)), (.v (.int .i64 a1)), (.v (.int .i64 a2))] (leHk h [])) : spec_l1In.S ar h (spec_l1In.res a0 a1 a2 y) (spec_l1In.out a0 a1 a2 y) := ⟨a0, a1, a2, y, H, (args_ok h0).1, (args_ok h0).2, rfl, rfl⟩
set_option maxHeartbeats 100000000 in
set_option maxRecDepth 100000 in
theorem spec_l1In.spec (a0 : Int) (a1 : Int) (a2 : Int) (y : Bool) (H : spec_l1In a0 a1 a2 = some y) : Spec Tryd.prog 92 [(.v (.int .i64 a0)), (.v (.int .i64 a1)), (.v (.int .i64 a2))] [] (spec_l1In.res a0 a1 a2 y) (spec_l1In.out a0 a1 a2 y) := by
  refine spec_intro (G1_ok.at tok []) (ct := []) Tryd.func92 rfl (by kernel_rfl) (by kernel_rfl) rfl ?_
  repeat' first
    | ((with_reducible refine eqg ?_); exact rfl)
    | ((with_reducible refine KOb.mk ?_); kernel_rfl)
    | ((with_reducible intro h); (repeat (first | replace H := grd_k H | replace H := out_step H (by assumption))); first | replace H := cond_t h H | replace H := cond_f h H | exact absurd h (by decide) | skip)
    | ((with_reducible refine Ob.mk ?_); first | (with_reducible rfl) | (first | ((repeat (first | (with_reducible exact grd_p H) | (replace H := grd_k H) | (replace H := out_step H (by assumption)))); done) | rfl | ((repeat (first | exact grd_p H | replace H := grd_k H | replace H := out_step H (by assumption))); done) | ((repeat (first | exact grd_p H | (have hp := grd_p H; exact hp) | replace H := grd_k H | replace H := out_step H (by assumption) | (replace H := bind_some H; obtain ⟨_, _, H⟩ := H))); done) | (repeat (first | exact grd_p H | replace H := grd_k H | replace H := out_step H (by assumption)))))
    | (with_reducible exact True.intro)
    | constructor
    | ((conv => whnf); first
        | ((with_reducible refine Ob.mk ?_); first | (with_reducible rfl) | (first | ((repeat (first | (with_reducible exact grd_p H) | (replace H := grd_k H) | (replace H := out_step H (by assumption)))); done) | rfl | ((repeat (first | exact grd_p H | replace H := grd_k H | replace H := out_step H (by assumption))); done) | ((repeat (first | exact grd_p H | (have hp := grd_p H; exact hp) | replace H := grd_k H | replace H := out_step H (by assumption) | (replace H := bind_some H; obtain ⟨_, _, H⟩ := H))); done) | (repeat (first | exact grd_p H | replace H := grd_k H | replace H := out_step H (by assumption)))))
        | ((with_reducible refine fin_mk ?_); (repeat (first | replace H := grd_k H | replace H := out_step H (by assumption))); have H := Option.some.inj H; subst H))
def G2 : Env := G1.add 92 [] spec_l1In.S
theorem G2_ok : EnvOk Tryd.prog G2 := G1_ok.add ent_92 fun ar h r h1 ⟨a0, a1, a2, y, hy, e1, e2, e3, e4⟩ => by
  subst e3 e4; exact (spec_l1In.spec a0 a1 a2 y hy).le e1 e2
attribute [local irreducible] spec_l1In

noncomputable def spec_l14Good (a0 : Platform) : Option (Bool) :=
  ((spec_l1In a0.1 (0 : Int) (1 : Int)).bind fun y1 => (cond (!y1) ((some false)) ((spec_l1In a0.2.1 (0 : Int) (16 : Int)).bind fun y2 => (cond (!y2) ((some false)) ((spec_l1In a0.2.2.1 (0 : Int) a0.2.1).bind fun y3 => (cond (!y3) ((some false)) ((spec_l1In a0.2.2.2.1 (0 : Int) (500 : Int)).bind fun y4 => (cond (!y4) ((some false)) ((spec_l1In a0.2.2.2.2.2.1 (0 : Int) (9999 : Int)).bind fun y5 => (cond (!y5) ((some false)) (cond (decide ((0 : Int) < a0.2.1)) ((some true)) ((some (decide (a0.1 = (0 : Int))))))))))))))))
def spec_l14Good.res (_ : Platform) (y : Bool) : AV := (.bl y)
def spec_l14Good.out (_ : Platform) (_ : Bool) : List (Option LB) := []
def spec_l14Good.S (ar : List AV) (h : List (Option LB)) (r : AV) (h1 : List (Option LB)) : Prop := ∃ a0 y, spec_l14Good a0 = some y ∧ leL ar [(.agg [(.v (.int .i64 a0.1)), (.v (.int .i64 a0.2.1)), (.v (.int .i64 a0.2.2.1)), (.v (.int .i64 a0.2.2.2.1)), (.bl a0.2.2.2.2.1), (.v (.int .i64 a0.2.2.2.2.2.1))])] ∧ leH h [] ∧ r = spec_l14Good.res a0 y ∧ h1 = spec_l14Good.out a0 y
theorem spec_l14Good.call {ar : List AV} {h : List (Option LB)} {a0 : Platform} {y : Bool} (H : spec_l14Good a0 = some y) (h0 : leLk ar [(.agg [(.v (.int .i64 a0.1)), (.v (.int .i64 a0.2.1)), (.v (.int .i64 a0.2.2.1)), (.v (.int .i64 a0.2.2.2.1)), (.bl a0.2.2.2.2.1), (.v (.int .i64 a0.2.2.2.2.2.1))])] (leHk h [])) : spec_l14Good.S ar h (spec_l14Good.res a0 y) (spec_l14Good.out a0 y) := ⟨a0, y, H, (args_ok h0).1, (args_ok h0).2, rfl, rfl⟩
set_option maxHeartbeats 100000000 in
set_option maxRecDepth 100000 in
theorem spec_l14Good.spec (a0 : Platform) (y : Bool) (H : spec_l14Good a0 = some y) : Spec Tryd.prog 69 [(.agg [(.v (.int .i64 a0.1)), (.v (.int .i64 a0.2.1)), (.v (.int .i64 a0.2.2.1)), (.v (.int .i64 a0.2.2.2.1)), (.bl a0.2.2.2.2.1), (.v (.int .i64 a0.2.2.2.2.2.1))])] [] (spec_l14Good.res a0 y) (spec_l14Good.out a0 y) := by
  refine spec_intro (G2_ok.at tok []) (ct := [(2, some [1, 32, 37, 38, 39])]) Tryd.func69 rfl (by kernel_rfl) (by kernel_rfl) rfl ?_
  repeat' first
    | ((with_reducible refine eqg ?_); exact rfl)
    | ((with_reducible refine KOb.mk ?_); kernel_rfl)
    | ((with_reducible intro h); (repeat (first | replace H := grd_k H | replace H := out_step H (by assumption))); first | replace H := cond_t h H | replace H := cond_f h H | exact absurd h (by decide) | skip)
    | ((with_reducible refine Ob.mk ?_); first | (with_reducible rfl) | (first | ((repeat (first | (with_reducible exact grd_p H) | (replace H := grd_k H) | (replace H := out_step H (by assumption)))); done) | rfl | ((repeat (first | exact grd_p H | replace H := grd_k H | replace H := out_step H (by assumption))); done) | ((repeat (first | exact grd_p H | (have hp := grd_p H; exact hp) | replace H := grd_k H | replace H := out_step H (by assumption) | (replace H := bind_some H; obtain ⟨_, _, H⟩ := H))); done) | (repeat (first | exact grd_p H | replace H := grd_k H | replace H := out_step H (by assumption)))))
    | (with_reducible exact True.intro)
    | constructor
    | ((conv => whnf); first
        | ((with_reducible refine Ob.mk ?_); first | (with_reducible rfl) | (first | ((repeat (first | (with_reducible exact grd_p H) | (replace H := grd_k H) | (replace H := out_step H (by assumption)))); done) | rfl | ((repeat (first | exact grd_p H | replace H := grd_k H | replace H := out_step H (by assumption))); done) | ((repeat (first | exact grd_p H | (have hp := grd_p H; exact hp) | replace H := grd_k H | replace H := out_step H (by assumption) | (replace H := bind_some H; obtain ⟨_, _, H⟩ := H))); done) | (repeat (first | exact grd_p H | replace H := grd_k H | replace H := out_step H (by assumption)))))
        | ((with_reducible refine CallW.mk ?_); (repeat (first | replace H := grd_k H | replace H := out_step H (by assumption))); replace H := bind_some H; obtain ⟨y, hy, H⟩ := H; first | ((with_reducible have hz : spec_l1In _ _ _ = some y := hy); clear hz; refine Exists.intro _ (Exists.intro _ ⟨spec_l1In.call hy ?_, rfl, rfl, ?_⟩)))
        | ((with_reducible refine fin_mk ?_); (repeat (first | replace H := grd_k H | replace H := out_step H (by assumption))); have H := Option.some.inj H; subst H))
def G3 : Env := G2.add 69 [] spec_l14Good.S
theorem G3_ok : EnvOk Tryd.prog G3 := G2_ok.add ent_69 fun ar h r h1 ⟨a0, y, hy, e1, e2, e3, e4⟩ => by
  subst e3 e4; exact (spec_l14Good.spec a0 y hy).le e1 e2
attribute [local irreducible] spec_l14Good

noncomputable def spec_l1Least (a0 : Int) (a1 : Int) : Option (Int) :=
  (cond (decide (a0 < a1)) ((some a0)) ((some a1)))
def spec_l1Least.res (_ : Int) (_ : Int) (y : Int) : AV := (.v (.int .i64 y))
def spec_l1Least.out (_ : Int) (_ : Int) (_ : Int) : List (Option LB) := []
def spec_l1Least.S (ar : List AV) (h : List (Option LB)) (r : AV) (h1 : List (Option LB)) : Prop := ∃ a0 a1 y, spec_l1Least a0 a1 = some y ∧ leL ar [(.v (.int .i64 a0)), (.v (.int .i64 a1))] ∧ leH h [] ∧ r = spec_l1Least.res a0 a1 y ∧ h1 = spec_l1Least.out a0 a1 y
theorem spec_l1Least.call {ar : List AV} {h : List (Option LB)} {a0 : Int} {a1 : Int} {y : Int} (H : spec_l1Least a0 a1 = some y) (h0 : leLk ar [(.v (.int .i64 a0)), (.v (.int .i64 a1))] (leHk h [])) : spec_l1Least.S ar h (spec_l1Least.res a0 a1 y) (spec_l1Least.out a0 a1 y) := ⟨a0, a1, y, H, (args_ok h0).1, (args_ok h0).2, rfl, rfl⟩
set_option maxHeartbeats 100000000 in
set_option maxRecDepth 100000 in
theorem spec_l1Least.spec (a0 : Int) (a1 : Int) (y : Int) (H : spec_l1Least a0 a1 = some y) : Spec Tryd.prog 71 [(.v (.int .i64 a0)), (.v (.int .i64 a1))] [] (spec_l1Least.res a0 a1 y) (spec_l1Least.out a0 a1 y) := by
  refine spec_intro (G3_ok.at tok []) (ct := []) Tryd.func71 rfl (by kernel_rfl) (by kernel_rfl) rfl ?_
  repeat' first
    | ((with_reducible refine eqg ?_); exact rfl)
    | ((with_reducible refine KOb.mk ?_); kernel_rfl)
    | ((with_reducible intro h); (repeat (first | replace H := grd_k H | replace H := out_step H (by assumption))); first | replace H := cond_t h H | replace H := cond_f h H | exact absurd h (by decide) | skip)
    | ((with_reducible refine Ob.mk ?_); first | (with_reducible rfl) | (first | ((repeat (first | (with_reducible exact grd_p H) | (replace H := grd_k H) | (replace H := out_step H (by assumption)))); done) | rfl | ((repeat (first | exact grd_p H | replace H := grd_k H | replace H := out_step H (by assumption))); done) | ((repeat (first | exact grd_p H | (have hp := grd_p H; exact hp) | replace H := grd_k H | replace H := out_step H (by assumption) | (replace H := bind_some H; obtain ⟨_, _, H⟩ := H))); done) | (repeat (first | exact grd_p H | replace H := grd_k H | replace H := out_step H (by assumption)))))
    | (with_reducible exact True.intro)
    | constructor
    | ((conv => whnf); first
        | ((with_reducible refine Ob.mk ?_); first | (with_reducible rfl) | (first | ((repeat (first | (with_reducible exact grd_p H) | (replace H := grd_k H) | (replace H := out_step H (by assumption)))); done) | rfl | ((repeat (first | exact grd_p H | replace H := grd_k H | replace H := out_step H (by assumption))); done) | ((repeat (first | exact grd_p H | (have hp := grd_p H; exact hp) | replace H := grd_k H | replace H := out_step H (by assumption) | (replace H := bind_some H; obtain ⟨_, _, H⟩ := H))); done) | (repeat (first | exact grd_p H | replace H := grd_k H | replace H := out_step H (by assumption)))))
        | ((with_reducible refine fin_mk ?_); (repeat (first | replace H := grd_k H | replace H := out_step H (by assumption))); have H := Option.some.inj H; subst H))
def G4 : Env := G3.add 71 [] spec_l1Least.S
theorem G4_ok : EnvOk Tryd.prog G4 := G3_ok.add ent_71 fun ar h r h1 ⟨a0, a1, y, hy, e1, e2, e3, e4⟩ => by
  subst e3 e4; exact (spec_l1Least.spec a0 a1 y hy).le e1 e2
attribute [local irreducible] spec_l1Least

noncomputable def spec_l14Entering (a0 : Platform) : Option (Int) :=
  (cond (!decide (a0.1 = (1 : Int))) ((some (0 : Int))) ((spec_l1Least a0.2.2.2.1 (w64 (a0.2.1 - a0.2.2.1))).bind fun y1 => (cond a0.2.2.2.2.1 ((spec_l1Least (1 : Int) y1).bind fun y2 => (some y2)) ((some y1)))))
def spec_l14Entering.res (_ : Platform) (y : Int) : AV := (.v (.int .i64 y))
def spec_l14Entering.out (_ : Platform) (_ : Int) : List (Option LB) := []
def spec_l14Entering.S (ar : List AV) (h : List (Option LB)) (r : AV) (h1 : List (Option LB)) : Prop := ∃ a0 y, spec_l14Entering a0 = some y ∧ leL ar [(.agg [(.v (.int .i64 a0.1)), (.v (.int .i64 a0.2.1)), (.v (.int .i64 a0.2.2.1)), (.v (.int .i64 a0.2.2.2.1)), (.bl a0.2.2.2.2.1), (.v (.int .i64 a0.2.2.2.2.2.1))])] ∧ leH h [] ∧ r = spec_l14Entering.res a0 y ∧ h1 = spec_l14Entering.out a0 y
theorem spec_l14Entering.call {ar : List AV} {h : List (Option LB)} {a0 : Platform} {y : Int} (H : spec_l14Entering a0 = some y) (h0 : leLk ar [(.agg [(.v (.int .i64 a0.1)), (.v (.int .i64 a0.2.1)), (.v (.int .i64 a0.2.2.1)), (.v (.int .i64 a0.2.2.2.1)), (.bl a0.2.2.2.2.1), (.v (.int .i64 a0.2.2.2.2.2.1))])] (leHk h [])) : spec_l14Entering.S ar h (spec_l14Entering.res a0 y) (spec_l14Entering.out a0 y) := ⟨a0, y, H, (args_ok h0).1, (args_ok h0).2, rfl, rfl⟩
set_option maxHeartbeats 100000000 in
set_option maxRecDepth 100000 in
theorem spec_l14Entering.spec (a0 : Platform) (y : Int) (H : spec_l14Entering a0 = some y) : Spec Tryd.prog 88 [(.agg [(.v (.int .i64 a0.1)), (.v (.int .i64 a0.2.1)), (.v (.int .i64 a0.2.2.1)), (.v (.int .i64 a0.2.2.2.1)), (.bl a0.2.2.2.2.1), (.v (.int .i64 a0.2.2.2.2.2.1))])] [] (spec_l14Entering.res a0 y) (spec_l14Entering.out a0 y) := by
  refine spec_intro (G4_ok.at tok []) (ct := [(4, some [1, 3])]) Tryd.func88 rfl (by kernel_rfl) (by kernel_rfl) rfl ?_
  repeat' first
    | ((with_reducible refine eqg ?_); exact rfl)
    | ((with_reducible refine KOb.mk ?_); kernel_rfl)
    | ((with_reducible intro h); (repeat (first | replace H := grd_k H | replace H := out_step H (by assumption))); first | replace H := cond_t h H | replace H := cond_f h H | exact absurd h (by decide) | skip)
    | ((with_reducible refine Ob.mk ?_); first | (with_reducible rfl) | (first | ((repeat (first | (with_reducible exact grd_p H) | (replace H := grd_k H) | (replace H := out_step H (by assumption)))); done) | rfl | ((repeat (first | exact grd_p H | replace H := grd_k H | replace H := out_step H (by assumption))); done) | ((repeat (first | exact grd_p H | (have hp := grd_p H; exact hp) | replace H := grd_k H | replace H := out_step H (by assumption) | (replace H := bind_some H; obtain ⟨_, _, H⟩ := H))); done) | (repeat (first | exact grd_p H | replace H := grd_k H | replace H := out_step H (by assumption)))))
    | (with_reducible exact True.intro)
    | constructor
    | ((conv => whnf); first
        | ((with_reducible refine Ob.mk ?_); first | (with_reducible rfl) | (first | ((repeat (first | (with_reducible exact grd_p H) | (replace H := grd_k H) | (replace H := out_step H (by assumption)))); done) | rfl | ((repeat (first | exact grd_p H | replace H := grd_k H | replace H := out_step H (by assumption))); done) | ((repeat (first | exact grd_p H | (have hp := grd_p H; exact hp) | replace H := grd_k H | replace H := out_step H (by assumption) | (replace H := bind_some H; obtain ⟨_, _, H⟩ := H))); done) | (repeat (first | exact grd_p H | replace H := grd_k H | replace H := out_step H (by assumption)))))
        | ((with_reducible refine CallW.mk ?_); (repeat (first | replace H := grd_k H | replace H := out_step H (by assumption))); replace H := bind_some H; obtain ⟨y, hy, H⟩ := H; first | ((with_reducible have hz : spec_l1Least _ _ = some y := hy); clear hz; refine Exists.intro _ (Exists.intro _ ⟨spec_l1Least.call hy ?_, rfl, rfl, ?_⟩)))
        | ((with_reducible refine fin_mk ?_); (repeat (first | replace H := grd_k H | replace H := out_step H (by assumption))); have H := Option.some.inj H; subst H))
def G5 : Env := G4.add 88 [] spec_l14Entering.S
theorem G5_ok : EnvOk Tryd.prog G5 := G4_ok.add ent_88 fun ar h r h1 ⟨a0, y, hy, e1, e2, e3, e4⟩ => by
  subst e3 e4; exact (spec_l14Entering.spec a0 y hy).le e1 e2
attribute [local irreducible] spec_l14Entering

noncomputable def spec_l14Most (a0 : ByteArray) : Option (Int) :=
  (cond (decide (a0 = (ByteArray.mk #[99, 111, 109, 101]))) ((some (16 : Int))) (cond (decide (a0 = (ByteArray.mk #[101, 110, 116, 101, 114]))) ((some (16 : Int))) (cond (decide (a0 = (ByteArray.mk #[108, 101, 97, 118, 101]))) ((some (16 : Int))) (cond (decide (a0 = (ByteArray.mk #[97, 114, 114, 105, 118, 101]))) ((some (100 : Int))) (cond (decide (a0 = (ByteArray.mk #[111, 112, 101, 110]))) ((some (0 : Int))) (cond (decide (a0 = (ByteArray.mk #[115, 104, 117, 116]))) ((some (0 : Int))) (cond (decide (a0 = (ByteArray.mk #[108, 101, 118, 101, 108]))) ((some (0 : Int))) (cond (decide (a0 = (ByteArray.mk #[103, 111]))) ((some (0 : Int))) ((some ((-1) : Int)))))))))))
def spec_l14Most.res (_ : ByteArray) (y : Int) : AV := (.v (.int .i64 y))
def spec_l14Most.out (_ : ByteArray) (_ : Int) : List (Option LB) := []
def spec_l14Most.S (ar : List AV) (h : List (Option LB)) (r : AV) (h1 : List (Option LB)) : Prop := ∃ a0 y, spec_l14Most a0 = some y ∧ leL ar [(.v (.string a0))] ∧ leH h [] ∧ r = spec_l14Most.res a0 y ∧ h1 = spec_l14Most.out a0 y
theorem spec_l14Most.call {ar : List AV} {h : List (Option LB)} {a0 : ByteArray} {y : Int} (H : spec_l14Most a0 = some y) (h0 : leLk ar [(.v (.string a0))] (leHk h [])) : spec_l14Most.S ar h (spec_l14Most.res a0 y) (spec_l14Most.out a0 y) := ⟨a0, y, H, (args_ok h0).1, (args_ok h0).2, rfl, rfl⟩
set_option maxHeartbeats 100000000 in
set_option maxRecDepth 100000 in
theorem spec_l14Most.spec (a0 : ByteArray) (y : Int) (H : spec_l14Most a0 = some y) : Spec Tryd.prog 72 [(.v (.string a0))] [] (spec_l14Most.res a0 y) (spec_l14Most.out a0 y) := by
  refine spec_intro (G5_ok.at tok []) (ct := [(10, some [3, 10])]) Tryd.func72 rfl (by kernel_rfl) (by kernel_rfl) rfl ?_
  repeat' first
    | ((with_reducible refine eqg ?_); exact rfl)
    | ((with_reducible refine KOb.mk ?_); kernel_rfl)
    | ((with_reducible intro h); (repeat (first | replace H := grd_k H | replace H := out_step H (by assumption))); first | replace H := cond_t h H | replace H := cond_f h H | exact absurd h (by decide) | skip)
    | ((with_reducible refine Ob.mk ?_); first | (with_reducible rfl) | (first | ((repeat (first | (with_reducible exact grd_p H) | (replace H := grd_k H) | (replace H := out_step H (by assumption)))); done) | rfl | ((repeat (first | exact grd_p H | replace H := grd_k H | replace H := out_step H (by assumption))); done) | ((repeat (first | exact grd_p H | (have hp := grd_p H; exact hp) | replace H := grd_k H | replace H := out_step H (by assumption) | (replace H := bind_some H; obtain ⟨_, _, H⟩ := H))); done) | (repeat (first | exact grd_p H | replace H := grd_k H | replace H := out_step H (by assumption)))))
    | (with_reducible exact True.intro)
    | constructor
    | ((conv => whnf); first
        | ((with_reducible refine Ob.mk ?_); first | (with_reducible rfl) | (first | ((repeat (first | (with_reducible exact grd_p H) | (replace H := grd_k H) | (replace H := out_step H (by assumption)))); done) | rfl | ((repeat (first | exact grd_p H | replace H := grd_k H | replace H := out_step H (by assumption))); done) | ((repeat (first | exact grd_p H | (have hp := grd_p H; exact hp) | replace H := grd_k H | replace H := out_step H (by assumption) | (replace H := bind_some H; obtain ⟨_, _, H⟩ := H))); done) | (repeat (first | exact grd_p H | replace H := grd_k H | replace H := out_step H (by assumption)))))
        | ((with_reducible refine fin_mk ?_); (repeat (first | replace H := grd_k H | replace H := out_step H (by assumption))); have H := Option.some.inj H; subst H))
def G6 : Env := G5.add 72 [] spec_l14Most.S
theorem G6_ok : EnvOk Tryd.prog G6 := G5_ok.add ent_72 fun ar h r h1 ⟨a0, y, hy, e1, e2, e3, e4⟩ => by
  subst e3 e4; exact (spec_l14Most.spec a0 y hy).le e1 e2
attribute [local irreducible] spec_l14Most

noncomputable def spec_l14Event (a0 : BoardEvent) : Option (Bool) :=
  ((spec_l14Most a0.1).bind fun y1 => (cond (decide (y1 = (0 : Int))) (cond (decide (a0.2.1 = (0 : Int))) ((some true)) (cond (decide ((0 : Int) < y1)) ((spec_l1In a0.2.1 (1 : Int) y1).bind fun y2 => (some y2)) ((some false)))) (cond (decide ((0 : Int) < y1)) ((spec_l1In a0.2.1 (1 : Int) y1).bind fun y3 => (some y3)) ((some false)))))
def spec_l14Event.res (_ : BoardEvent) (y : Bool) : AV := (.bl y)
def spec_l14Event.out (_ : BoardEvent) (_ : Bool) : List (Option LB) := []
def spec_l14Event.S (ar : List AV) (h : List (Option LB)) (r : AV) (h1 : List (Option LB)) : Prop := ∃ a0 y, spec_l14Event a0 = some y ∧ leL ar [(.agg [(.v (.string a0.1)), (.v (.int .i64 a0.2.1))])] ∧ leH h [] ∧ r = spec_l14Event.res a0 y ∧ h1 = spec_l14Event.out a0 y
theorem spec_l14Event.call {ar : List AV} {h : List (Option LB)} {a0 : BoardEvent} {y : Bool} (H : spec_l14Event a0 = some y) (h0 : leLk ar [(.agg [(.v (.string a0.1)), (.v (.int .i64 a0.2.1))])] (leHk h [])) : spec_l14Event.S ar h (spec_l14Event.res a0 y) (spec_l14Event.out a0 y) := ⟨a0, y, H, (args_ok h0).1, (args_ok h0).2, rfl, rfl⟩
set_option maxHeartbeats 100000000 in
set_option maxRecDepth 100000 in
theorem spec_l14Event.spec (a0 : BoardEvent) (y : Bool) (H : spec_l14Event a0 = some y) : Spec Tryd.prog 87 [(.agg [(.v (.string a0.1)), (.v (.int .i64 a0.2.1))])] [] (spec_l14Event.res a0 y) (spec_l14Event.out a0 y) := by
  refine spec_intro (G6_ok.at tok []) (ct := []) Tryd.func87 rfl (by kernel_rfl) (by kernel_rfl) rfl ?_
  repeat' first
    | ((with_reducible refine eqg ?_); exact rfl)
    | ((with_reducible refine KOb.mk ?_); kernel_rfl)
    | ((with_reducible intro h); (repeat (first | replace H := grd_k H | replace H := out_step H (by assumption))); first | replace H := cond_t h H | replace H := cond_f h H | exact absurd h (by decide) | skip)
    | ((with_reducible refine Ob.mk ?_); first | (with_reducible rfl) | (first | ((repeat (first | (with_reducible exact grd_p H) | (replace H := grd_k H) | (replace H := out_step H (by assumption)))); done) | rfl | ((repeat (first | exact grd_p H | replace H := grd_k H | replace H := out_step H (by assumption))); done) | ((repeat (first | exact grd_p H | (have hp := grd_p H; exact hp) | replace H := grd_k H | replace H := out_step H (by assumption) | (replace H := bind_some H; obtain ⟨_, _, H⟩ := H))); done) | (repeat (first | exact grd_p H | replace H := grd_k H | replace H := out_step H (by assumption)))))
    | (with_reducible exact True.intro)
    | constructor
    | ((conv => whnf); first
        | ((with_reducible refine Ob.mk ?_); first | (with_reducible rfl) | (first | ((repeat (first | (with_reducible exact grd_p H) | (replace H := grd_k H) | (replace H := out_step H (by assumption)))); done) | rfl | ((repeat (first | exact grd_p H | replace H := grd_k H | replace H := out_step H (by assumption))); done) | ((repeat (first | exact grd_p H | (have hp := grd_p H; exact hp) | replace H := grd_k H | replace H := out_step H (by assumption) | (replace H := bind_some H; obtain ⟨_, _, H⟩ := H))); done) | (repeat (first | exact grd_p H | replace H := grd_k H | replace H := out_step H (by assumption)))))
        | ((with_reducible refine CallW.mk ?_); (repeat (first | replace H := grd_k H | replace H := out_step H (by assumption))); replace H := bind_some H; obtain ⟨y, hy, H⟩ := H; first | ((with_reducible have hz : spec_l14Most _ = some y := hy); clear hz; refine Exists.intro _ (Exists.intro _ ⟨spec_l14Most.call hy ?_, rfl, rfl, ?_⟩)) | ((with_reducible have hz : spec_l1In _ _ _ = some y := hy); clear hz; refine Exists.intro _ (Exists.intro _ ⟨spec_l1In.call hy ?_, rfl, rfl, ?_⟩)))
        | ((with_reducible refine fin_mk ?_); (repeat (first | replace H := grd_k H | replace H := out_step H (by assumption))); have H := Option.some.inj H; subst H))
def G7 : Env := G6.add 87 [] spec_l14Event.S
theorem G7_ok : EnvOk Tryd.prog G7 := G6_ok.add ent_87 fun ar h r h1 ⟨a0, y, hy, e1, e2, e3, e4⟩ => by
  subst e3 e4; exact (spec_l14Event.spec a0 y hy).le e1 e2
attribute [local irreducible] spec_l14Event

noncomputable def spec_l14Can (a0 : Platform) (a1 : BoardEvent) : Option (Bool) :=
  (cond (decide (a1.1 = (ByteArray.mk #[99, 111, 109, 101]))) ((some (decide (a0.2.1 = (0 : Int))))) (cond (decide (a1.1 = (ByteArray.mk #[111, 112, 101, 110]))) (cond (decide ((0 : Int) < a0.2.1)) ((some (decide (a0.1 = (0 : Int))))) ((some false))) (cond (decide (a1.1 = (ByteArray.mk #[115, 104, 117, 116]))) ((some (decide (a0.1 = (1 : Int))))) (cond (decide (a1.1 = (ByteArray.mk #[101, 110, 116, 101, 114]))) ((spec_l14Entering (a0.1, a0.2.1, a0.2.2.1, a0.2.2.2.1, a0.2.2.2.2.1, a0.2.2.2.2.2.1, ())).bind fun y1 => (some (decide (a1.2.1 ≤ y1)))) (cond (decide (a1.1 = (ByteArray.mk #[108, 101, 97, 118, 101]))) (cond (decide (a0.1 = (1 : Int))) ((some (decide (a1.2.1 ≤ a0.2.2.1)))) ((some false))) (cond (decide (a1.1 = (ByteArray.mk #[97, 114, 114, 105, 118, 101]))) ((some (decide ((w64 (a0.2.2.2.1 + a1.2.1)) ≤ (500 : Int))))) (cond (decide (a1.1 = (ByteArray.mk #[108, 101, 118, 101, 108]))) (cond (!a0.2.2.2.2.1) ((some (decide ((0 : Int) < a0.2.2.2.1)))) ((some false))) (cond (decide ((0 : Int) < a0.2.1)) (cond (decide (a0.1 = (0 : Int))) ((some (decide (a0.2.2.2.2.2.1 < (9999 : Int))))) ((some false))) ((some false))))))))))
def spec_l14Can.res (_ : Platform) (_ : BoardEvent) (y : Bool) : AV := (.bl y)
def spec_l14Can.out (_ : Platform) (_ : BoardEvent) (_ : Bool) : List (Option LB) := []
def spec_l14Can.S (ar : List AV) (h : List (Option LB)) (r : AV) (h1 : List (Option LB)) : Prop := ∃ a0 a1 y, spec_l14Can a0 a1 = some y ∧ leL ar [(.agg [(.v (.int .i64 a0.1)), (.v (.int .i64 a0.2.1)), (.v (.int .i64 a0.2.2.1)), (.v (.int .i64 a0.2.2.2.1)), (.bl a0.2.2.2.2.1), (.v (.int .i64 a0.2.2.2.2.2.1))]), (.agg [(.v (.string a1.1)), (.v (.int .i64 a1.2.1))])] ∧ leH h [] ∧ r = spec_l14Can.res a0 a1 y ∧ h1 = spec_l14Can.out a0 a1 y
theorem spec_l14Can.call {ar : List AV} {h : List (Option LB)} {a0 : Platform} {a1 : BoardEvent} {y : Bool} (H : spec_l14Can a0 a1 = some y) (h0 : leLk ar [(.agg [(.v (.int .i64 a0.1)), (.v (.int .i64 a0.2.1)), (.v (.int .i64 a0.2.2.1)), (.v (.int .i64 a0.2.2.2.1)), (.bl a0.2.2.2.2.1), (.v (.int .i64 a0.2.2.2.2.2.1))]), (.agg [(.v (.string a1.1)), (.v (.int .i64 a1.2.1))])] (leHk h [])) : spec_l14Can.S ar h (spec_l14Can.res a0 a1 y) (spec_l14Can.out a0 a1 y) := ⟨a0, a1, y, H, (args_ok h0).1, (args_ok h0).2, rfl, rfl⟩
set_option maxHeartbeats 100000000 in
set_option maxRecDepth 100000 in
theorem spec_l14Can.spec (a0 : Platform) (a1 : BoardEvent) (y : Bool) (H : spec_l14Can a0 a1 = some y) : Spec Tryd.prog 70 [(.agg [(.v (.int .i64 a0.1)), (.v (.int .i64 a0.2.1)), (.v (.int .i64 a0.2.2.1)), (.v (.int .i64 a0.2.2.2.1)), (.bl a0.2.2.2.2.1), (.v (.int .i64 a0.2.2.2.2.2.1))]), (.agg [(.v (.string a1.1)), (.v (.int .i64 a1.2.1))])] [] (spec_l14Can.res a0 a1 y) (spec_l14Can.out a0 a1 y) := by
  refine spec_intro (G7_ok.at tok []) (ct := [(11, some [2, 3, 6, 34, 40, 41, 42, 43, 44, 60, 61, 62, 68, 69, 70, 73, 74, 75]), (16, some [2, 68, 69, 70, 73, 74, 75])]) Tryd.func70 rfl (by kernel_rfl) (by kernel_rfl) rfl ?_
  repeat' first
    | ((with_reducible refine eqg ?_); exact rfl)
    | ((with_reducible refine KOb.mk ?_); kernel_rfl)
    | ((with_reducible intro h); (repeat (first | replace H := grd_k H | replace H := out_step H (by assumption))); first | replace H := cond_t h H | replace H := cond_f h H | exact absurd h (by decide) | skip)
    | ((with_reducible refine Ob.mk ?_); first | (with_reducible rfl) | (first | ((repeat (first | (with_reducible exact grd_p H) | (replace H := grd_k H) | (replace H := out_step H (by assumption)))); done) | rfl | ((repeat (first | exact grd_p H | replace H := grd_k H | replace H := out_step H (by assumption))); done) | ((repeat (first | exact grd_p H | (have hp := grd_p H; exact hp) | replace H := grd_k H | replace H := out_step H (by assumption) | (replace H := bind_some H; obtain ⟨_, _, H⟩ := H))); done) | (repeat (first | exact grd_p H | replace H := grd_k H | replace H := out_step H (by assumption)))))
    | (with_reducible exact True.intro)
    | constructor
    | ((conv => whnf); first
        | ((with_reducible refine Ob.mk ?_); first | (with_reducible rfl) | (first | ((repeat (first | (with_reducible exact grd_p H) | (replace H := grd_k H) | (replace H := out_step H (by assumption)))); done) | rfl | ((repeat (first | exact grd_p H | replace H := grd_k H | replace H := out_step H (by assumption))); done) | ((repeat (first | exact grd_p H | (have hp := grd_p H; exact hp) | replace H := grd_k H | replace H := out_step H (by assumption) | (replace H := bind_some H; obtain ⟨_, _, H⟩ := H))); done) | (repeat (first | exact grd_p H | replace H := grd_k H | replace H := out_step H (by assumption)))))
        | ((with_reducible refine CallW.mk ?_); (repeat (first | replace H := grd_k H | replace H := out_step H (by assumption))); replace H := bind_some H; obtain ⟨y, hy, H⟩ := H; first | ((with_reducible have hz : spec_l14Entering _ = some y := hy); clear hz; refine Exists.intro _ (Exists.intro _ ⟨spec_l14Entering.call hy ?_, rfl, rfl, ?_⟩)))
        | ((with_reducible refine fin_mk ?_); (repeat (first | replace H := grd_k H | replace H := out_step H (by assumption))); have H := Option.some.inj H; subst H))
def G8 : Env := G7.add 70 [] spec_l14Can.S
theorem G8_ok : EnvOk Tryd.prog G8 := G7_ok.add ent_70 fun ar h r h1 ⟨a0, a1, y, hy, e1, e2, e3, e4⟩ => by
  subst e3 e4; exact (spec_l14Can.spec a0 a1 y hy).le e1 e2
attribute [local irreducible] spec_l14Can

end Go.Proofs.YteckiilljhdkpaaDoor
