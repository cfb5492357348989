/-
  Contracts, printed by a program.
-/
import Derived.Test.YtplknllbpdookaaTy
namespace Go.Proofs.Ytplknllbpdookaa
open Go.RowKit
attribute [local irreducible] Ob loopwp Sub Spec Fin Again CallW CutC KOb iter joinx outm

noncomputable def laws_toWindRule (a0 : WindRule) : Option (WindRule) :=
  (some (a0.1, a0.2.1, a0.2.2.1, a0.2.2.2.1, ()))
def laws_toWindRule.res (_ : WindRule) (y : WindRule) : AV := (.agg [(.v (.int .i64 y.1)), (.v (.int .i64 y.2.1)), (.v (.int .i64 y.2.2.1)), (.v (.int .i64 y.2.2.2.1))])
def laws_toWindRule.out (_ : WindRule) (_ : WindRule) : List (Option LB) := []
def laws_toWindRule.S (ar : List AV) (h : List (Option LB)) (r : AV) (h1 : List (Option LB)) : Prop := ∃ a0 y, laws_toWindRule a0 = some y ∧ leL ar [(.agg [(.v (.int .i64 a0.1)), (.v (.int .i64 a0.2.1)), (.v (.int .i64 a0.2.2.1)), (.v (.int .i64 a0.2.2.2.1))])] ∧ leH h [] ∧ r = laws_toWindRule.res a0 y ∧ h1 = laws_toWindRule.out a0 y
theorem laws_toWindRule.call {ar : List AV} {h : List (Option LB)} {a0 : WindRule} {y : WindRule} (H : laws_toWindRule a0 = some y) (h0 : leLk ar [(.agg [(.v (.int .i64 a0.1)), (.v (.int .i64 a0.2.1)), (.v (.int .i64 a0.2.2.1)), (.v (.int .i64 a0.2.2.2.1))])] (leHk h [])) : laws_toWindRule.S ar h (laws_toWindRule.res a0 y) (laws_toWindRule.out a0 y) := ⟨a0, y, H, (args_ok h0).1, (args_ok h0).2, rfl, rfl⟩
set_option maxHeartbeats 100000000 in
set_option maxRecDepth 100000 in
theorem laws_toWindRule.spec (a0 : WindRule) (y : WindRule) (H : laws_toWindRule a0 = some y) : Spec Try.prog 16 [(.agg [(.v (.int .i64 a0.1)), (.v (.int .i64 a0.2.1)), (.v (.int .i64 a0.2.2.1)), (.v (.int .i64 a0.2.2.2.1))])] [] (laws_toWindRule.res a0 y) (laws_toWindRule.out a0 y) := by
  refine spec_intro G0_ok (ct := [(6, some [2, 3])]) Try.func16 rfl (by kernel_rfl) (by kernel_rfl) rfl ?_
  repeat' first
    | ((with_reducible refine eqg ?_); exact rfl)
    | ((with_reducible refine KOb.mk ?_); kernel_rfl)
    | ((with_reducible intro h); (repeat (first | replace H := grd_k H | replace H := out_step H (by assumption))); first | replace H := cond_t h H | replace H := cond_f h H | exact absurd h (by decide) | skip)
    | ((with_reducible refine Ob.mk ?_); first | rfl | (repeat (first | exact grd_p H | replace H := grd_k H | replace H := out_step H (by assumption))))
    | (with_reducible exact True.intro)
    | constructor
    | ((conv => whnf); first
        | ((with_reducible refine Ob.mk ?_); first | rfl | (repeat (first | exact grd_p H | replace H := grd_k H | replace H := out_step H (by assumption))))
        | ((with_reducible refine fin_mk ?_); (repeat (first | replace H := grd_k H | replace H := out_step H (by assumption))); have H := Option.some.inj H; subst H))
def G1 : Env := G0.add 16 [] laws_toWindRule.S
theorem G1_ok : EnvOk Try.prog G1 := G0_ok.add ent_16 fun ar h r h1 ⟨a0, y, hy, e1, e2, e3, e4⟩ => by
  subst e3 e4; exact (laws_toWindRule.spec a0 y hy).le e1 e2
attribute [local irreducible] laws_toWindRule

noncomputable def laws_toWindState (a0 : WindState) : Option (WindState) :=
  (some (a0.1, a0.2.1, ()))
def laws_toWindState.res (_ : WindState) (y : WindState) : AV := (.agg [(.v (.int .i64 y.1)), (.v (.int .i64 y.2.1))])
def laws_toWindState.out (_ : WindState) (_ : WindState) : List (Option LB) := []
def laws_toWindState.S (ar : List AV) (h : List (Option LB)) (r : AV) (h1 : List (Option LB)) : Prop := ∃ a0 y, laws_toWindState a0 = some y ∧ leL ar [(.agg [(.v (.int .i64 a0.1)), (.v (.int .i64 a0.2.1))])] ∧ leH h [] ∧ r = laws_toWindState.res a0 y ∧ h1 = laws_toWindState.out a0 y
theorem laws_toWindState.call {ar : List AV} {h : List (Option LB)} {a0 : WindState} {y : WindState} (H : laws_toWindState a0 = some y) (h0 : leLk ar [(.agg [(.v (.int .i64 a0.1)), (.v (.int .i64 a0.2.1))])] (leHk h [])) : laws_toWindState.S ar h (laws_toWindState.res a0 y) (laws_toWindState.out a0 y) := ⟨a0, y, H, (args_ok h0).1, (args_ok h0).2, rfl, rfl⟩
set_option maxHeartbeats 100000000 in
set_option maxRecDepth 100000 in
theorem laws_toWindState.spec (a0 : WindState) (y : WindState) (H : laws_toWindState a0 = some y) : Spec Try.prog 23 [(.agg [(.v (.int .i64 a0.1)), (.v (.int .i64 a0.2.1))])] [] (laws_toWindState.res a0 y) (laws_toWindState.out a0 y) := by
  refine spec_intro G1_ok (ct := []) Try.func23 rfl (by kernel_rfl) (by kernel_rfl) rfl ?_
  repeat' first
    | ((with_reducible refine eqg ?_); exact rfl)
    | ((with_reducible refine KOb.mk ?_); kernel_rfl)
    | ((with_reducible intro h); (repeat (first | replace H := grd_k H | replace H := out_step H (by assumption))); first | replace H := cond_t h H | replace H := cond_f h H | exact absurd h (by decide) | skip)
    | ((with_reducible refine Ob.mk ?_); first | rfl | (repeat (first | exact grd_p H | replace H := grd_k H | replace H := out_step H (by assumption))))
    | (with_reducible exact True.intro)
    | constructor
    | ((conv => whnf); first
        | ((with_reducible refine Ob.mk ?_); first | rfl | (repeat (first | exact grd_p H | replace H := grd_k H | replace H := out_step H (by assumption))))
        | ((with_reducible refine fin_mk ?_); (repeat (first | replace H := grd_k H | replace H := out_step H (by assumption))); have H := Option.some.inj H; subst H))
def G2 : Env := G1.add 23 [] laws_toWindState.S
theorem G2_ok : EnvOk Try.prog G2 := G1_ok.add ent_23 fun ar h r h1 ⟨a0, y, hy, e1, e2, e3, e4⟩ => by
  subst e3 e4; exact (laws_toWindState.spec a0 y hy).le e1 e2
attribute [local irreducible] laws_toWindState

noncomputable def laws_toIntS_loop1 (a0 : (List Int)) (v3 : Int) (v4 : (List Int)) : Option (Lp (Int × (List Int)) (((List Int)))) :=
  (cond (decide (v3 < (a0.length : Int))) (grd (0 ≤ v3 ∧ v3 < (a0.length : Int)) (grd (0 ≤ v3 ∧ v3 < (v4.length : Int)) (some (.go ((w64 (v3 + (1 : Int))), (v4.set v3.toNat (a0.getD v3.toNat 0))))))) ((some (.out v4))))
noncomputable def laws_toIntS (a0 : (List Int)) : Option ((List Int)) :=
  (grd (0 ≤ (a0.length : Int) ∧ (a0.length : Int) ≤ (a0.length : Int) ∧ (8 : Int) * (a0.length : Int) ≤ 140737488355328 ∧ (a0.length : Int) ≤ 140737488355328) ((iter (fun s => laws_toIntS_loop1 a0 s.1 s.2) ((0 : Int), (List.replicate (a0.length : Int).toNat (0 : Int)))).bind (fun r5 => (some r5))))
def laws_toIntS.res (_ : (List Int)) (_ : (List Int)) : AV := (.own 0)
def laws_toIntS.out (_ : (List Int)) (y : (List Int)) : List (Option LB) := [some (.arr 3 (.int .i64) y)]
def laws_toIntS.S (ar : List AV) (h : List (Option LB)) (r : AV) (h1 : List (Option LB)) : Prop := ∃ a0 y, laws_toIntS a0 = some y ∧ leL ar [(.tree (.int .i64) a0)] ∧ leH h [] ∧ r = laws_toIntS.res a0 y ∧ h1 = laws_toIntS.out a0 y
theorem laws_toIntS.call {ar : List AV} {h : List (Option LB)} {a0 : (List Int)} {y : (List Int)} (H : laws_toIntS a0 = some y) (h0 : leLk ar [(.tree (.int .i64) a0)] (leHk h [])) : laws_toIntS.S ar h (laws_toIntS.res a0 y) (laws_toIntS.out a0 y) := ⟨a0, y, H, (args_ok h0).1, (args_ok h0).2, rfl, rfl⟩
set_option maxHeartbeats 100000000 in
set_option maxRecDepth 100000 in
theorem laws_toIntS.spec (a0 : (List Int)) (y : (List Int)) (H : laws_toIntS a0 = some y) : Spec Try.prog 17 [(.tree (.int .i64) a0)] [] (laws_toIntS.res a0 y) (laws_toIntS.out a0 y) := by
  refine spec_intro G2_ok (ct := []) Try.func17 rfl (by kernel_rfl) (by kernel_rfl) rfl ?_
  repeat' first
    | ((with_reducible refine eqg ?_); exact rfl)
    | ((with_reducible refine KOb.mk ?_); kernel_rfl)
    | ((with_reducible intro h); (repeat (first | replace H := grd_k H | replace H := out_step H (by assumption))); first | replace H := cond_t h H | replace H := cond_f h H | exact absurd h (by decide) | skip)
    | ((with_reducible refine Ob.mk ?_); first | rfl | (repeat (first | exact grd_p H | replace H := grd_k H | replace H := out_step H (by assumption))))
    | (with_reducible exact True.intro)
    | constructor
    | ((conv => whnf); first
        | ((with_reducible refine Ob.mk ?_); first | rfl | (repeat (first | exact grd_p H | replace H := grd_k H | replace H := out_step H (by assumption))))
        | ((repeat (first | replace H := grd_k H | replace H := out_step H (by assumption))); refine loop_iter G2_ok (ct := []) (F := (fun s1 : Int × (List Int) => ⟨sl [(0, (.tree (.int .i64) a0)), (3, (.own 0)), (4, (.v (.int .i64 s1.1)))], [some (.arr 3 (.int .i64) s1.2)]⟩)) (step := (fun s : Int × (List Int) => laws_toIntS_loop1 _ s.1 s.2)) _ H (by kernel_rfl) (sub_auto ?_) ?_; rotate_left; (intro s1 r v hr H); rotate_right)
        | ((repeat (first | replace H := grd_k H | replace H := out_step H (by assumption))); refine again_step H (by assumption) (sub_auto ?_))
        | ((with_reducible refine fin_mk ?_); (repeat (first | replace H := grd_k H | replace H := out_step H (by assumption))); have H := Option.some.inj H; subst H))
def G3 : Env := G2.add 17 [] laws_toIntS.S
theorem G3_ok : EnvOk Try.prog G3 := G2_ok.add ent_17 fun ar h r h1 ⟨a0, y, hy, e1, e2, e3, e4⟩ => by
  subst e3 e4; exact (laws_toIntS.spec a0 y hy).le e1 e2
attribute [local irreducible] laws_toIntS

noncomputable def spec_l1In (a0 : Int) (a1 : Int) (a2 : Int) : Option (Bool) :=
  (cond (decide (a1 ≤ a0)) ((some (decide (a0 ≤ a2)))) ((some false)))
def spec_l1In.res (_ : Int) (_ : Int) (_ : Int) (y : Bool) : AV := (.bl y)
def spec_l1In.out (_ : Int) (_ : Int) (_ : Int) (_ : Bool) : List (Option LB) := []
def spec_l1In.S (ar : List AV) (h : List (Option LB)) (r : AV) (h1 : List (Option LB)) : Prop := ∃ a0 a1 a2 y, spec_l1In a0 a1 a2 = some y ∧ leL ar [(.v (.int .i64 a0)), (.v (.int .i64 a1)), (.v (.int .i64 a2))] ∧ leH h [] ∧ r = spec_l1In.res a0 a1 a2 y ∧ h1 = spec_l1In.out a0 a1 a2 y
theorem spec_l1In.call {ar : List AV} {h : List (Option LB)} {a0 : Int} {a1 : Int} {a2 : Int} {y : Bool} (H : spec_l1In a0 a1 a2 = some y) (h0 : leLk ar [(.v (.int .i64 a0)), (.v (.int .i64 a1)), (.v (.int .i64 a2))] (leHk h [])) : spec_l1In.S ar h (spec_l1In.res a0 a1 a2 y) (spec_l1In.out a0 a1 a2 y) := ⟨a0, a1, a2, y, H, (args_ok h0).1, (args_ok h0).2, rfl, rfl⟩
set_option maxHeartbeats 100000000 in
set_option maxRecDepth 100000 in
theorem spec_l1In.spec (a0 : Int) (a1 : Int) (a2 : Int) (y : Bool) (H : spec_l1In a0 a1 a2 = some y) : Spec Try.prog 120 [(.v (.int .i64 a0)), (.v (.int .i64 a1)), (.v (.int .i64 a2))] [] (spec_l1In.res a0 a1 a2 y) (spec_l1In.out a0 a1 a2 y) := by
  refine spec_intro G3_ok (ct := []) Try.func120 rfl (by kernel_rfl) (by kernel_rfl) rfl ?_
  repeat' first
    | ((with_reducible refine eqg ?_); exact rfl)
    | ((with_reducible refine KOb.mk ?_); kernel_rfl)
    | ((with_reducible intro h); (repeat (first | replace H := grd_k H | replace H := out_step H (by assumption))); first | replace H := cond_t h H | replace H := cond_f h H | exact absurd h (by decide) | skip)
    | ((with_reducible refine Ob.mk ?_); first | rfl | (repeat (first | exact grd_p H | replace H := grd_k H | replace H := out_step H (by assumption))))
    | (with_reducible exact True.intro)
    | constructor
    | ((conv => whnf); first
        | ((with_reducible refine Ob.mk ?_); first | rfl | (repeat (first | exact grd_p H | replace H := grd_k H | replace H := out_step H (by assumption))))
        | ((with_reducible refine fin_mk ?_); (repeat (first | replace H := grd_k H | replace H := out_step H (by assumption))); have H := Option.some.inj H; subst H))
def G4 : Env := G3.add 120 [] spec_l1In.S
theorem G4_ok : EnvOk Try.prog G4 := G3_ok.add ent_120 fun ar h r h1 ⟨a0, a1, a2, y, hy, e1, e2, e3, e4⟩ => by
  subst e3 e4; exact (spec_l1In.spec a0 a1 a2 y hy).le e1 e2
attribute [local irreducible] spec_l1In

noncomputable def spec_l12Rule (a0 : WindRule) : Option (Bool) :=
  ((spec_l1In a0.1 (2 : Int) (60 : Int)).bind fun y1 => (cond y1 ((spec_l1In a0.2.1 (w64 (a0.1 + (1 : Int))) (60 : Int)).bind fun y2 => (cond y2 ((spec_l1In a0.2.2.1 (1 : Int) (w64 (a0.1 - (1 : Int)))).bind fun y3 => (cond y3 ((spec_l1In a0.2.2.2.1 (1 : Int) (10 : Int)).bind fun y4 => (some y4)) ((some false)))) ((some false)))) ((some false))))
def spec_l12Rule.res (_ : WindRule) (y : Bool) : AV := (.bl y)
def spec_l12Rule.out (_ : WindRule) (_ : Bool) : List (Option LB) := []
def spec_l12Rule.S (ar : List AV) (h : List (Option LB)) (r : AV) (h1 : List (Option LB)) : Prop := ∃ a0 y, spec_l12Rule a0 = some y ∧ leL ar [(.agg [(.v (.int .i64 a0.1)), (.v (.int .i64 a0.2.1)), (.v (.int .i64 a0.2.2.1)), (.v (.int .i64 a0.2.2.2.1))])] ∧ leH h [] ∧ r = spec_l12Rule.res a0 y ∧ h1 = spec_l12Rule.out a0 y
theorem spec_l12Rule.call {ar : List AV} {h : List (Option LB)} {a0 : WindRule} {y : Bool} (H : spec_l12Rule a0 = some y) (h0 : leLk ar [(.agg [(.v (.int .i64 a0.1)), (.v (.int .i64 a0.2.1)), (.v (.int .i64 a0.2.2.1)), (.v (.int .i64 a0.2.2.2.1))])] (leHk h [])) : spec_l12Rule.S ar h (spec_l12Rule.res a0 y) (spec_l12Rule.out a0 y) := ⟨a0, y, H, (args_ok h0).1, (args_ok h0).2, rfl, rfl⟩
set_option maxHeartbeats 100000000 in
set_option maxRecDepth 100000 in
theorem spec_l12Rule.spec (a0 : WindRule) (y : Bool) (H : spec_l12Rule a0 = some y) : Spec Try.prog 88 [(.agg [(.v (.int .i64 a0.1)), (.v (.int .i64 a0.2.1)), (.v (.int .i64 a0.2.2.1)), (.v (.int .i64 a0.2.2.2.1))])] [] (spec_l12Rule.res a0 y) (spec_l12Rule.out a0 y) := by
  refine spec_intro G4_ok (ct := []) Try.func88 rfl (by kernel_rfl) (by kernel_rfl) rfl ?_
  repeat' first
    | ((with_reducible refine eqg ?_); exact rfl)
    | ((with_reducible refine KOb.mk ?_); kernel_rfl)
    | ((with_reducible intro h); (repeat (first | replace H := grd_k H | replace H := out_step H (by assumption))); first | replace H := cond_t h H | replace H := cond_f h H | exact absurd h (by decide) | skip)
    | ((with_reducible refine Ob.mk ?_); first | rfl | (repeat (first | exact grd_p H | replace H := grd_k H | replace H := out_step H (by assumption))))
    | (with_reducible exact True.intro)
    | constructor
    | ((conv => whnf); first
        | ((with_reducible refine Ob.mk ?_); first | rfl | (repeat (first | exact grd_p H | replace H := grd_k H | replace H := out_step H (by assumption))))
        | ((with_reducible refine CallW.mk ?_); (repeat (first | replace H := grd_k H | replace H := out_step H (by assumption))); replace H := bind_some H; obtain ⟨y, hy, H⟩ := H; first | ((with_reducible have hz : spec_l1In _ _ _ = some y := hy); clear hz; refine Exists.intro _ (Exists.intro _ ⟨spec_l1In.call hy ?_, rfl, rfl, ?_⟩)))
        | ((with_reducible refine fin_mk ?_); (repeat (first | replace H := grd_k H | replace H := out_step H (by assumption))); have H := Option.some.inj H; subst H))
def G5 : Env := G4.add 88 [] spec_l12Rule.S
theorem G5_ok : EnvOk Try.prog G5 := G4_ok.add ent_88 fun ar h r h1 ⟨a0, y, hy, e1, e2, e3, e4⟩ => by
  subst e3 e4; exact (spec_l12Rule.spec a0 y hy).le e1 e2
attribute [local irreducible] spec_l12Rule

noncomputable def spec_l12State (a0 : WindRule) (a1 : WindState) : Option (Bool) :=
  ((spec_l12Rule (a0.1, a0.2.1, a0.2.2.1, a0.2.2.2.1, ())).bind fun y1 => (cond y1 ((spec_l1In a1.1 (0 : Int) (2 : Int)).bind fun y2 => (cond y2 ((spec_l1In a1.2.1 (0 : Int) (w64 (a0.2.2.2.1 - (1 : Int)))).bind fun y3 => (cond y3 (cond (decide ((0 : Int) < a1.1)) ((some true)) ((some (decide (a1.2.1 = (0 : Int)))))) ((some false)))) ((some false)))) ((some false))))
def spec_l12State.res (_ : WindRule) (_ : WindState) (y : Bool) : AV := (.bl y)
def spec_l12State.out (_ : WindRule) (_ : WindState) (_ : Bool) : List (Option LB) := []
def spec_l12State.S (ar : List AV) (h : List (Option LB)) (r : AV) (h1 : List (Option LB)) : Prop := ∃ a0 a1 y, spec_l12State a0 a1 = some y ∧ leL ar [(.agg [(.v (.int .i64 a0.1)), (.v (.int .i64 a0.2.1)), (.v (.int .i64 a0.2.2.1)), (.v (.int .i64 a0.2.2.2.1))]), (.agg [(.v (.int .i64 a1.1)), (.v (.int .i64 a1.2.1))])] ∧ leH h [] ∧ r = spec_l12State.res a0 a1 y ∧ h1 = spec_l12State.out a0 a1 y
theorem spec_l12State.call {ar : List AV} {h : List (Option LB)} {a0 : WindRule} {a1 : WindState} {y : Bool} (H : spec_l12State a0 a1 = some y) (h0 : leLk ar [(.agg [(.v (.int .i64 a0.1)), (.v (.int .i64 a0.2.1)), (.v (.int .i64 a0.2.2.1)), (.v (.int .i64 a0.2.2.2.1))]), (.agg [(.v (.int .i64 a1.1)), (.v (.int .i64 a1.2.1))])] (leHk h [])) : spec_l12State.S ar h (spec_l12State.res a0 a1 y) (spec_l12State.out a0 a1 y) := ⟨a0, a1, y, H, (args_ok h0).1, (args_ok h0).2, rfl, rfl⟩
set_option maxHeartbeats 100000000 in
set_option maxRecDepth 100000 in
theorem spec_l12State.spec (a0 : WindRule) (a1 : WindState) (y : Bool) (H : spec_l12State a0 a1 = some y) : Spec Try.prog 93 [(.agg [(.v (.int .i64 a0.1)), (.v (.int .i64 a0.2.1)), (.v (.int .i64 a0.2.2.1)), (.v (.int .i64 a0.2.2.2.1))]), (.agg [(.v (.int .i64 a1.1)), (.v (.int .i64 a1.2.1))])] [] (spec_l12State.res a0 a1 y) (spec_l12State.out a0 a1 y) := by
  refine spec_intro G5_ok (ct := []) Try.func93 rfl (by kernel_rfl) (by kernel_rfl) rfl ?_
  repeat' first
    | ((with_reducible refine eqg ?_); exact rfl)
    | ((with_reducible refine KOb.mk ?_); kernel_rfl)
    | ((with_reducible intro h); (repeat (first | replace H := grd_k H | replace H := out_step H (by assumption))); first | replace H := cond_t h H | replace H := cond_f h H | exact absurd h (by decide) | skip)
    | ((with_reducible refine Ob.mk ?_); first | rfl | (repeat (first | exact grd_p H | replace H := grd_k H | replace H := out_step H (by assumption))))
    | (with_reducible exact True.intro)
    | constructor
    | ((conv => whnf); first
        | ((with_reducible refine Ob.mk ?_); first | rfl | (repeat (first | exact grd_p H | replace H := grd_k H | replace H := out_step H (by assumption))))
        | ((with_reducible refine CallW.mk ?_); (repeat (first | replace H := grd_k H | replace H := out_step H (by assumption))); replace H := bind_some H; obtain ⟨y, hy, H⟩ := H; first | ((with_reducible have hz : spec_l12Rule _ = some y := hy); clear hz; refine Exists.intro _ (Exists.intro _ ⟨spec_l12Rule.call hy ?_, rfl, rfl, ?_⟩)) | ((with_reducible have hz : spec_l1In _ _ _ = some y := hy); clear hz; refine Exists.intro _ (Exists.intro _ ⟨spec_l1In.call hy ?_, rfl, rfl, ?_⟩)))
        | ((with_reducible refine fin_mk ?_); (repeat (first | replace H := grd_k H | replace H := out_step H (by assumption))); have H := Option.some.inj H; subst H))
def G6 : Env := G5.add 93 [] spec_l12State.S
theorem G6_ok : EnvOk Try.prog G6 := G5_ok.add ent_93 fun ar h r h1 ⟨a0, a1, y, hy, e1, e2, e3, e4⟩ => by
  subst e3 e4; exact (spec_l12State.spec a0 a1 y hy).le e1 e2
attribute [local irreducible] spec_l12State

noncomputable def spec_l12Vote (a0 : Int) : Option (Bool) :=
  ((spec_l1In a0 (0 : Int) (60 : Int)).bind fun y1 => (some y1))
def spec_l12Vote.res (_ : Int) (y : Bool) : AV := (.bl y)
def spec_l12Vote.out (_ : Int) (_ : Bool) : List (Option LB) := []
def spec_l12Vote.S (ar : List AV) (h : List (Option LB)) (r : AV) (h1 : List (Option LB)) : Prop := ∃ a0 y, spec_l12Vote a0 = some y ∧ leL ar [(.v (.int .i64 a0))] ∧ leH h [] ∧ r = spec_l12Vote.res a0 y ∧ h1 = spec_l12Vote.out a0 y
theorem spec_l12Vote.call {ar : List AV} {h : List (Option LB)} {a0 : Int} {y : Bool} (H : spec_l12Vote a0 = some y) (h0 : leLk ar [(.v (.int .i64 a0))] (leHk h [])) : spec_l12Vote.S ar h (spec_l12Vote.res a0 y) (spec_l12Vote.out a0 y) := ⟨a0, y, H, (args_ok h0).1, (args_ok h0).2, rfl, rfl⟩
set_option maxHeartbeats 100000000 in
set_option maxRecDepth 100000 in
theorem spec_l12Vote.spec (a0 : Int) (y : Bool) (H : spec_l12Vote a0 = some y) : Spec Try.prog 111 [(.v (.int .i64 a0))] [] (spec_l12Vote.res a0 y) (spec_l12Vote.out a0 y) := by
  refine spec_intro G6_ok (ct := []) Try.func111 rfl (by kernel_rfl) (by kernel_rfl) rfl ?_
  repeat' first
    | ((with_reducible refine eqg ?_); exact rfl)
    | ((with_reducible refine KOb.mk ?_); kernel_rfl)
    | ((with_reducible intro h); (repeat (first | replace H := grd_k H | replace H := out_step H (by assumption))); first | replace H := cond_t h H | replace H := cond_f h H | exact absurd h (by decide) | skip)
    | ((with_reducible refine Ob.mk ?_); first | rfl | (repeat (first | exact grd_p H | replace H := grd_k H | replace H := out_step H (by assumption))))
    | (with_reducible exact True.intro)
    | constructor
    | ((conv => whnf); first
        | ((with_reducible refine Ob.mk ?_); first | rfl | (repeat (first | exact grd_p H | replace H := grd_k H | replace H := out_step H (by assumption))))
        | ((with_reducible refine CallW.mk ?_); (repeat (first | replace H := grd_k H | replace H := out_step H (by assumption))); replace H := bind_some H; obtain ⟨y, hy, H⟩ := H; first | ((with_reducible have hz : spec_l1In _ _ _ = some y := hy); clear hz; refine Exists.intro _ (Exists.intro _ ⟨spec_l1In.call hy ?_, rfl, rfl, ?_⟩)))
        | ((with_reducible refine fin_mk ?_); (repeat (first | replace H := grd_k H | replace H := out_step H (by assumption))); have H := Option.some.inj H; subst H))
def G7 : Env := G6.add 111 [] spec_l12Vote.S
theorem G7_ok : EnvOk Try.prog G7 := G6_ok.add ent_111 fun ar h r h1 ⟨a0, y, hy, e1, e2, e3, e4⟩ => by
  subst e3 e4; exact (spec_l12Vote.spec a0 y hy).le e1 e2
attribute [local irreducible] spec_l12Vote

noncomputable def spec_l12Votes_loop1 (a0 : (List Int)) (v4 : Int) : Option (Lp (Int) ((Unit) ⊕ (Unit))) :=
  (cond (decide (v4 < (a0.length : Int))) (grd (0 ≤ v4 ∧ v4 < (a0.length : Int)) ((spec_l12Vote (a0.getD v4.toNat 0)).bind fun y5 => (cond (!y5) ((some (.out (Sum.inl ())))) (some (.go (w64 (v4 + (1 : Int)))))))) ((some (.out (Sum.inr ())))))
noncomputable def spec_l12Votes (a0 : (List Int)) : Option (Bool) :=
  ((iter (fun s => spec_l12Votes_loop1 a0 s) (0 : Int)).bind (Sum.elim (fun r7 => (some false)) (fun r8 => (some (decide ((a0.length : Int) ≤ (50 : Int)))))))
def spec_l12Votes.res (_ : (List Int)) (y : Bool) : AV := (.bl y)
def spec_l12Votes.out (_ : (List Int)) (_ : Bool) : List (Option LB) := []
def spec_l12Votes.S (ar : List AV) (h : List (Option LB)) (r : AV) (h1 : List (Option LB)) : Prop := ∃ a0 y, spec_l12Votes a0 = some y ∧ leL ar [(.tree (.int .i64) a0)] ∧ leH h [] ∧ r = spec_l12Votes.res a0 y ∧ h1 = spec_l12Votes.out a0 y
theorem spec_l12Votes.call {ar : List AV} {h : List (Option LB)} {a0 : (List Int)} {y : Bool} (H : spec_l12Votes a0 = some y) (h0 : leLk ar [(.tree (.int .i64) a0)] (leHk h [])) : spec_l12Votes.S ar h (spec_l12Votes.res a0 y) (spec_l12Votes.out a0 y) := ⟨a0, y, H, (args_ok h0).1, (args_ok h0).2, rfl, rfl⟩
set_option maxHeartbeats 100000000 in
set_option maxRecDepth 100000 in
theorem spec_l12Votes.spec (a0 : (List Int)) (y : Bool) (H : spec_l12Votes a0 = some y) : Spec Try.prog 89 [(.tree (.int .i64) a0)] [] (spec_l12Votes.res a0 y) (spec_l12Votes.out a0 y) := by
  refine spec_intro G7_ok (ct := []) Try.func89 rfl (by kernel_rfl) (by kernel_rfl) rfl ?_
  repeat' first
    | ((with_reducible refine eqg ?_); exact rfl)
    | ((with_reducible refine KOb.mk ?_); kernel_rfl)
    | ((with_reducible intro h); (repeat (first | replace H := grd_k H | replace H := out_step H (by assumption))); first | replace H := cond_t h H | replace H := cond_f h H | exact absurd h (by decide) | skip)
    | ((with_reducible refine Ob.mk ?_); first | rfl | (repeat (first | exact grd_p H | replace H := grd_k H | replace H := out_step H (by assumption))))
    | (with_reducible exact True.intro)
    | constructor
    | ((conv => whnf); first
        | ((with_reducible refine Ob.mk ?_); first | rfl | (repeat (first | exact grd_p H | replace H := grd_k H | replace H := out_step H (by assumption))))
        | ((with_reducible refine CallW.mk ?_); (repeat (first | replace H := grd_k H | replace H := out_step H (by assumption))); replace H := bind_some H; obtain ⟨y, hy, H⟩ := H; first | ((with_reducible have hz : spec_l12Vote _ = some y := hy); clear hz; refine Exists.intro _ (Exists.intro _ ⟨spec_l12Vote.call hy ?_, rfl, rfl, ?_⟩)))
        | ((repeat (first | replace H := grd_k H | replace H := out_step H (by assumption))); refine loop_iter G7_ok (ct := []) (F := (fun s1 : Int => ⟨sl [(0, (.tree (.int .i64) a0)), (3, (.v (.int .i64 s1)))], []⟩)) (step := (fun s : Int => spec_l12Votes_loop1 _ s)) _ H (by kernel_rfl) (sub_auto ?_) ?_; rotate_left; (intro s1 r v hr H); rotate_right)
        | ((repeat (first | replace H := grd_k H | replace H := out_step H (by assumption))); refine again_step H (by assumption) (sub_auto ?_))
        | ((with_reducible refine fin_mk ?_); (repeat (first | replace H := grd_k H | replace H := out_step H (by assumption))); have H := Option.some.inj H; subst H))
def G8 : Env := G7.add 89 [] spec_l12Votes.S
theorem G8_ok : EnvOk Try.prog G8 := G7_ok.add ent_89 fun ar h r h1 ⟨a0, y, hy, e1, e2, e3, e4⟩ => by
  subst e3 e4; exact (spec_l12Votes.spec a0 y hy).le e1 e2
attribute [local irreducible] spec_l12Votes

noncomputable def spec_l12Next (a0 : WindRule) (a1 : WindState) (a2 : Int) : Option (WindState) :=
  ((cond (decide (a1.1 = (2 : Int))) ((some a0.2.1)) ((some a0.1))).bind fun z1 => (cond (decide (a0.2.1 ≤ a2)) ((some ((2 : Int), (0 : Int), ()))) ((cond (decide (a1.1 = (0 : Int))) ((some (z1, (decide (a0.1 ≤ a2))))) ((some (z1, false)))).bind fun z2 => (cond z2.2 ((some ((1 : Int), (0 : Int), ()))) (cond (decide (a1.1 = (0 : Int))) ((some (a1.1, (0 : Int), ()))) (cond (decide ((w64 (z2.1 - a0.2.2.1)) ≤ a2)) ((some (a1.1, (0 : Int), ()))) (cond (decide ((w64 (a1.2.1 + (1 : Int))) = a0.2.2.2.1)) ((some ((w64 (a1.1 - (1 : Int))), (0 : Int), ()))) ((some (a1.1, (w64 (a1.2.1 + (1 : Int))), ()))))))))))
def spec_l12Next.res (_ : WindRule) (_ : WindState) (_ : Int) (y : WindState) : AV := (.agg [(.v (.int .i64 y.1)), (.v (.int .i64 y.2.1))])
def spec_l12Next.out (_ : WindRule) (_ : WindState) (_ : Int) (_ : WindState) : List (Option LB) := []
def spec_l12Next.S (ar : List AV) (h : List (Option LB)) (r : AV) (h1 : List (Option LB)) : Prop := ∃ a0 a1 a2 y, spec_l12Next a0 a1 a2 = some y ∧ leL ar [(.agg [(.v (.int .i64 a0.1)), (.v (.int .i64 a0.2.1)), (.v (.int .i64 a0.2.2.1)), (.v (.int .i64 a0.2.2.2.1))]), (.agg [(.v (.int .i64 a1.1)), (.v (.int .i64 a1.2.1))]), (.v (.int .i64 a2))] ∧ leH h [] ∧ r = spec_l12Next.res a0 a1 a2 y ∧ h1 = spec_l12Next.out a0 a1 a2 y
theorem spec_l12Next.call {ar : List AV} {h : List (Option LB)} {a0 : WindRule} {a1 : WindState} {a2 : Int} {y : WindState} (H : spec_l12Next a0 a1 a2 = some y) (h0 : leLk ar [(.agg [(.v (.int .i64 a0.1)), (.v (.int .i64 a0.2.1)), (.v (.int .i64 a0.2.2.1)), (.v (.int .i64 a0.2.2.2.1))]), (.agg [(.v (.int .i64 a1.1)), (.v (.int .i64 a1.2.1))]), (.v (.int .i64 a2))] (leHk h [])) : spec_l12Next.S ar h (spec_l12Next.res a0 a1 a2 y) (spec_l12Next.out a0 a1 a2 y) := ⟨a0, a1, a2, y, H, (args_ok h0).1, (args_ok h0).2, rfl, rfl⟩
set_option maxHeartbeats 100000000 in
set_option maxRecDepth 100000 in
theorem spec_l12Next.spec (a0 : WindRule) (a1 : WindState) (a2 : Int) (y : WindState) (H : spec_l12Next a0 a1 a2 = some y) : Spec Try.prog 112 [(.agg [(.v (.int .i64 a0.1)), (.v (.int .i64 a0.2.1)), (.v (.int .i64 a0.2.2.1)), (.v (.int .i64 a0.2.2.2.1))]), (.agg [(.v (.int .i64 a1.1)), (.v (.int .i64 a1.2.1))]), (.v (.int .i64 a2))] [] (spec_l12Next.res a0 a1 a2 y) (spec_l12Next.out a0 a1 a2 y) := by
  refine spec_intro G8_ok (ct := [(4, none), (7, none), (11, some [4, 6, 47]), (12, some [4, 6])]) Try.func112 rfl (by kernel_rfl) (by kernel_rfl) rfl ?_
  repeat' first
    | ((with_reducible refine eqg ?_); exact rfl)
    | ((with_reducible refine KOb.mk ?_); kernel_rfl)
    | ((with_reducible intro h); (repeat (first | replace H := grd_k H | replace H := out_step H (by assumption))); first | replace H := cond_t h H | replace H := cond_f h H | exact absurd h (by decide) | skip)
    | ((with_reducible refine Ob.mk ?_); first | rfl | (repeat (first | exact grd_p H | replace H := grd_k H | replace H := out_step H (by assumption))))
    | (with_reducible exact True.intro)
    | constructor
    | ((conv => whnf); first
        | ((with_reducible refine Ob.mk ?_); first | rfl | (repeat (first | exact grd_p H | replace H := grd_k H | replace H := out_step H (by assumption))))
        | ((with_reducible refine cutAt (id := 4) ?_); (repeat (first | replace H := grd_k H | replace H := out_step H (by assumption))); first | (replace H := bind_some H; obtain ⟨z, hz, H⟩ := H; refine CutC.mk (id := 4) ⟨sl [(2, (.v (.int .i64 a2))), (3, (.loc 0 0 0)), (4, (.loc 1 0 0)), (6, (.loc 2 0 0)), (7, (.v (.int .i64 z)))], [some (.box 27 [(.v (.int .i64 a0.1)), (.v (.int .i64 a0.2.1)), (.v (.int .i64 a0.2.2.1)), (.v (.int .i64 a0.2.2.2.1))]), some (.box 36 [(.v (.int .i64 a1.1)), (.v (.int .i64 a1.2.1))]), some (.box 36 [(.v (.int .i64 (0 : Int))), (.v (.int .i64 (0 : Int)))])]⟩ ?_ ?_; (replace H := hz)))
        | ((with_reducible refine cutAt (id := 7) ?_); (repeat (first | replace H := grd_k H | replace H := out_step H (by assumption))); first | (replace H := bind_some H; obtain ⟨z, hz, H⟩ := H; refine CutC.mk (id := 7) ⟨sl [(2, (.v (.int .i64 a2))), (3, (.loc 0 0 0)), (4, (.loc 1 0 0)), (6, (.loc 2 0 0)), (7, (.v (.int .i64 z.1))), (21, (.bl z.2))], [some (.box 27 [(.v (.int .i64 a0.1)), (.v (.int .i64 a0.2.1)), (.v (.int .i64 a0.2.2.1)), (.v (.int .i64 a0.2.2.2.1))]), some (.box 36 [(.v (.int .i64 a1.1)), (.v (.int .i64 a1.2.1))]), some (.box 36 [(.v (.int .i64 (0 : Int))), (.v (.int .i64 (0 : Int)))])]⟩ ?_ ?_; (replace H := hz)))
        | ((repeat (first | replace H := grd_k H | replace H := out_step H (by assumption))); have H := Option.some.inj H; subst H; with_reducible refine sub_auto ?_)
        | ((with_reducible refine fin_mk ?_); (repeat (first | replace H := grd_k H | replace H := out_step H (by assumption))); have H := Option.some.inj H; subst H))
def G9 : Env := G8.add 112 [] spec_l12Next.S
theorem G9_ok : EnvOk Try.prog G9 := G8_ok.add ent_112 fun ar h r h1 ⟨a0, a1, a2, y, hy, e1, e2, e3, e4⟩ => by
  subst e3 e4; exact (spec_l12Next.spec a0 a1 a2 y hy).le e1 e2
attribute [local irreducible] spec_l12Next

noncomputable def spec_l12Run_loop1 (a0 : WindRule) (a2 : (List Int)) (v7 : Int) (v8 : Int) (v9 : Int) (v10 : (List Int)) : Option (Lp (Int × Int × Int × (List Int)) ((Int × Int × (List Int)))) :=
  (cond (decide (v7 < (a2.length : Int))) (grd (0 ≤ v7 ∧ v7 < (a2.length : Int)) ((spec_l12Next (a0.1, a0.2.1, a0.2.2.1, a0.2.2.2.1, ()) (v8, v9, ()) (a2.getD v7.toNat 0)).bind fun y11 => (grd ((v10.length + [y11.1].length) * 8 ≤ 140737488355328 ∧ v10.length + [y11.1].length ≤ 140737488355328) (some (.go ((w64 (v7 + (1 : Int))), y11.1, y11.2.1, (v10 ++ [y11.1]))))))) ((some (.out (v8, v9, v10)))))
noncomputable def spec_l12Run (a0 : WindRule) (a1 : WindState) (a2 : (List Int)) : Option ((List Int) × WindState) :=
  ((iter (fun s => spec_l12Run_loop1 a0 a2 s.1 s.2.1 s.2.2.1 s.2.2.2) ((0 : Int), a1.1, a1.2.1, ([] : List Int))).bind (fun r12 => (some (r12.2.2, (r12.1, r12.2.1, ())))))
def spec_l12Run.res (_ : WindRule) (_ : WindState) (_ : (List Int)) (y : (List Int) × WindState) : AV := (.tup [(.own 0), (.agg [(.v (.int .i64 y.2.1)), (.v (.int .i64 y.2.2.1))])])
def spec_l12Run.out (_ : WindRule) (_ : WindState) (_ : (List Int)) (y : (List Int) × WindState) : List (Option LB) := [some (.arr 3 (.int .i64) y.1)]
def spec_l12Run.S (ar : List AV) (h : List (Option LB)) (r : AV) (h1 : List (Option LB)) : Prop := ∃ a0 a1 a2 y, spec_l12Run a0 a1 a2 = some y ∧ leL ar [(.agg [(.v (.int .i64 a0.1)), (.v (.int .i64 a0.2.1)), (.v (.int .i64 a0.2.2.1)), (.v (.int .i64 a0.2.2.2.1))]), (.agg [(.v (.int .i64 a1.1)), (.v (.int .i64 a1.2.1))]), (.tree (.int .i64) a2)] ∧ leH h [] ∧ r = spec_l12Run.res a0 a1 a2 y ∧ h1 = spec_l12Run.out a0 a1 a2 y
theorem spec_l12Run.call {ar : List AV} {h : List (Option LB)} {a0 : WindRule} {a1 : WindState} {a2 : (List Int)} {y : (List Int) × WindState} (H : spec_l12Run a0 a1 a2 = some y) (h0 : leLk ar [(.agg [(.v (.int .i64 a0.1)), (.v (.int .i64 a0.2.1)), (.v (.int .i64 a0.2.2.1)), (.v (.int .i64 a0.2.2.2.1))]), (.agg [(.v (.int .i64 a1.1)), (.v (.int .i64 a1.2.1))]), (.tree (.int .i64) a2)] (leHk h [])) : spec_l12Run.S ar h (spec_l12Run.res a0 a1 a2 y) (spec_l12Run.out a0 a1 a2 y) := ⟨a0, a1, a2, y, H, (args_ok h0).1, (args_ok h0).2, rfl, rfl⟩
set_option maxHeartbeats 100000000 in
set_option maxRecDepth 100000 in
theorem spec_l12Run.spec (a0 : WindRule) (a1 : WindState) (a2 : (List Int)) (y : (List Int) × WindState) (H : spec_l12Run a0 a1 a2 = some y) : Spec Try.prog 90 [(.agg [(.v (.int .i64 a0.1)), (.v (.int .i64 a0.2.1)), (.v (.int .i64 a0.2.2.1)), (.v (.int .i64 a0.2.2.2.1))]), (.agg [(.v (.int .i64 a1.1)), (.v (.int .i64 a1.2.1))]), (.tree (.int .i64) a2)] [] (spec_l12Run.res a0 a1 a2 y) (spec_l12Run.out a0 a1 a2 y) := by
  refine spec_intro G9_ok (ct := [(4, some [2, 3, 4, 7, 8, 9])]) Try.func90 rfl (by kernel_rfl) (by kernel_rfl) rfl ?_
  repeat' first
    | ((with_reducible refine eqg ?_); exact rfl)
    | ((with_reducible refine KOb.mk ?_); kernel_rfl)
    | ((with_reducible intro h); (repeat (first | replace H := grd_k H | replace H := out_step H (by assumption))); first | replace H := cond_t h H | replace H := cond_f h H | exact absurd h (by decide) | skip)
    | ((with_reducible refine Ob.mk ?_); first | rfl | (repeat (first | exact grd_p H | replace H := grd_k H | replace H := out_step H (by assumption))))
    | (with_reducible exact True.intro)
    | constructor
    | ((conv => whnf); first
        | ((with_reducible refine Ob.mk ?_); first | rfl | (repeat (first | exact grd_p H | replace H := grd_k H | replace H := out_step H (by assumption))))
        | ((with_reducible refine CallW.mk ?_); (repeat (first | replace H := grd_k H | replace H := out_step H (by assumption))); replace H := bind_some H; obtain ⟨y, hy, H⟩ := H; first | ((with_reducible have hz : spec_l12Next _ _ _ = some y := hy); clear hz; refine Exists.intro _ (Exists.intro _ ⟨spec_l12Next.call hy ?_, rfl, rfl, ?_⟩)))
        | ((repeat (first | replace H := grd_k H | replace H := out_step H (by assumption))); refine loop_iter G9_ok (ct := [(4, some [2, 3, 4, 7, 8, 9])]) (F := (fun s1 : Int × Int × Int × (List Int) => ⟨sl [(2, (.tree (.int .i64) a2)), (3, (.loc 0 0 0)), (4, (.loc 1 0 0)), (7, (.loc 2 0 0)), (8, (.own 3)), (9, (.v (.int .i64 s1.1)))], [some (.box 27 [(.v (.int .i64 a0.1)), (.v (.int .i64 a0.2.1)), (.v (.int .i64 a0.2.2.1)), (.v (.int .i64 a0.2.2.2.1))]), some (.box 36 [(.v (.int .i64 s1.2.1)), (.v (.int .i64 s1.2.2.1))]), some (.box 36 [(.v (.int .i64 (0 : Int))), (.v (.int .i64 (0 : Int)))]), some (.arr 3 (.int .i64) s1.2.2.2)]⟩)) (step := (fun s : Int × Int × Int × (List Int) => spec_l12Run_loop1 _ _ s.1 s.2.1 s.2.2.1 s.2.2.2)) _ H (by kernel_rfl) (sub_auto ?_) ?_; rotate_left; (intro s1 r v hr H); rotate_right)
        | ((repeat (first | replace H := grd_k H | replace H := out_step H (by assumption))); refine again_step H (by assumption) (sub_auto ?_))
        | ((with_reducible refine fin_mk ?_); (repeat (first | replace H := grd_k H | replace H := out_step H (by assumption))); have H := Option.some.inj H; subst H))
def G10 : Env := G9.add 90 [] spec_l12Run.S
theorem G10_ok : EnvOk Try.prog G10 := G9_ok.add ent_90 fun ar h r h1 ⟨a0, a1, a2, y, hy, e1, e2, e3, e4⟩ => by
  subst e3 e4; exact (spec_l12Run.spec a0 a1 a2 y hy).le e1 e2
attribute [local irreducible] spec_l12Run

noncomputable def spec_RunWind (a0 : WindRule) (a1 : WindState) (a2 : (List Int)) : Option ((List Int) × WindState × Bool) :=
  ((spec_l12State (a0.1, a0.2.1, a0.2.2.1, a0.2.2.2.1, ()) (a1.1, a1.2.1, ())).bind fun y1 => (cond (!y1) ((some (([] : List Int), ((0 : Int), (0 : Int), ()), false))) ((spec_l12Votes a2).bind fun y2 => (cond (!y2) ((some (([] : List Int), ((0 : Int), (0 : Int), ()), false))) ((spec_l12Run (a0.1, a0.2.1, a0.2.2.1, a0.2.2.2.1, ()) (a1.1, a1.2.1, ()) a2).bind fun y3 => (some (y3.1, (y3.2.1, y3.2.2.1, ()), true)))))))
def spec_RunWind.res (_ : WindRule) (_ : WindState) (_ : (List Int)) (y : (List Int) × WindState × Bool) : AV := (.tup [(.own 0), (.agg [(.v (.int .i64 y.2.1.1)), (.v (.int .i64 y.2.1.2.1))]), (.bl y.2.2)])
def spec_RunWind.out (_ : WindRule) (_ : WindState) (_ : (List Int)) (y : (List Int) × WindState × Bool) : List (Option LB) := [some (.arr 3 (.int .i64) y.1)]
def spec_RunWind.S (ar : List AV) (h : List (Option LB)) (r : AV) (h1 : List (Option LB)) : Prop := ∃ a0 a1 a2 y, spec_RunWind a0 a1 a2 = some y ∧ leL ar [(.agg [(.v (.int .i64 a0.1)), (.v (.int .i64 a0.2.1)), (.v (.int .i64 a0.2.2.1)), (.v (.int .i64 a0.2.2.2.1))]), (.agg [(.v (.int .i64 a1.1)), (.v (.int .i64 a1.2.1))]), (.tree (.int .i64) a2)] ∧ leH h [] ∧ r = spec_RunWind.res a0 a1 a2 y ∧ h1 = spec_RunWind.out a0 a1 a2 y
theorem spec_RunWind.call {ar : List AV} {h : List (Option LB)} {a0 : WindRule} {a1 : WindState} {a2 : (List Int)} {y : (List Int) × WindState × Bool} (H : spec_RunWind a0 a1 a2 = some y) (h0 : leLk ar [(.agg [(.v (.int .i64 a0.1)), (.v (.int .i64 a0.2.1)), (.v (.int .i64 a0.2.2.1)), (.v (.int .i64 a0.2.2.2.1))]), (.agg [(.v (.int .i64 a1.1)), (.v (.int .i64 a1.2.1))]), (.tree (.int .i64) a2)] (leHk h [])) : spec_RunWind.S ar h (spec_RunWind.res a0 a1 a2 y) (spec_RunWind.out a0 a1 a2 y) := ⟨a0, a1, a2, y, H, (args_ok h0).1, (args_ok h0).2, rfl, rfl⟩
set_option maxHeartbeats 100000000 in
set_option maxRecDepth 100000 in
theorem spec_RunWind.spec (a0 : WindRule) (a1 : WindState) (a2 : (List Int)) (y : (List Int) × WindState × Bool) (H : spec_RunWind a0 a1 a2 = some y) : Spec Try.prog 22 [(.agg [(.v (.int .i64 a0.1)), (.v (.int .i64 a0.2.1)), (.v (.int .i64 a0.2.2.1)), (.v (.int .i64 a0.2.2.2.1))]), (.agg [(.v (.int .i64 a1.1)), (.v (.int .i64 a1.2.1))]), (.tree (.int .i64) a2)] [] (spec_RunWind.res a0 a1 a2 y) (spec_RunWind.out a0 a1 a2 y) := by
  refine spec_intro G10_ok (ct := [(2, some [2, 3, 4, 7, 19])]) Try.func22 rfl (by kernel_rfl) (by kernel_rfl) rfl ?_
  repeat' first
    | ((with_reducible refine eqg ?_); exact rfl)
    | ((with_reducible refine KOb.mk ?_); kernel_rfl)
    | ((with_reducible intro h); (repeat (first | replace H := grd_k H | replace H := out_step H (by assumption))); first | replace H := cond_t h H | replace H := cond_f h H | exact absurd h (by decide) | skip)
    | ((with_reducible refine Ob.mk ?_); first | rfl | (repeat (first | exact grd_p H | replace H := grd_k H | replace H := out_step H (by assumption))))
    | (with_reducible exact True.intro)
    | constructor
    | ((conv => whnf); first
        | ((with_reducible refine Ob.mk ?_); first | rfl | (repeat (first | exact grd_p H | replace H := grd_k H | replace H := out_step H (by assumption))))
        | ((with_reducible refine CallW.mk ?_); (repeat (first | replace H := grd_k H | replace H := out_step H (by assumption))); replace H := bind_some H; obtain ⟨y, hy, H⟩ := H; first | ((with_reducible have hz : spec_l12State _ _ = some y := hy); clear hz; refine Exists.intro _ (Exists.intro _ ⟨spec_l12State.call hy ?_, rfl, rfl, ?_⟩)) | ((with_reducible have hz : spec_l12Votes _ = some y := hy); clear hz; refine Exists.intro _ (Exists.intro _ ⟨spec_l12Votes.call hy ?_, rfl, rfl, ?_⟩)) | ((with_reducible have hz : spec_l12Run _ _ _ = some y := hy); clear hz; refine Exists.intro _ (Exists.intro _ ⟨spec_l12Run.call hy ?_, rfl, rfl, ?_⟩)))
        | ((with_reducible refine fin_mk ?_); (repeat (first | replace H := grd_k H | replace H := out_step H (by assumption))); have H := Option.some.inj H; subst H))
def G11 : Env := G10.add 22 [] spec_RunWind.S
theorem G11_ok : EnvOk Try.prog G11 := G10_ok.add ent_22 fun ar h r h1 ⟨a0, a1, a2, y, hy, e1, e2, e3, e4⟩ => by
  subst e3 e4; exact (spec_RunWind.spec a0 a1 a2 y hy).le e1 e2
attribute [local irreducible] spec_RunWind

noncomputable def impl_within (a0 : Int) (a1 : Int) (a2 : Int) : Option (Bool) :=
  (cond (decide (a1 ≤ a0)) ((some (decide (a0 ≤ a2)))) ((some false)))
def impl_within.res (_ : Int) (_ : Int) (_ : Int) (y : Bool) : AV := (.bl y)
def impl_within.out (_ : Int) (_ : Int) (_ : Int) (_ : Bool) : List (Option LB) := []
def impl_within.S (ar : List AV) (h : List (Option LB)) (r : AV) (h1 : List (Option LB)) : Prop := ∃ a0 a1 a2 y, impl_within a0 a1 a2 = some y ∧ leL ar [(.v (.int .i64 a0)), (.v (.int .i64 a1)), (.v (.int .i64 a2))] ∧ leH h [] ∧ r = impl_within.res a0 a1 a2 y ∧ h1 = impl_within.out a0 a1 a2 y
theorem impl_within.call {ar : List AV} {h : List (Option LB)} {a0 : Int} {a1 : Int} {a2 : Int} {y : Bool} (H : impl_within a0 a1 a2 = some y) (h0 : leLk ar [(.v (.int .i64 a0)), (.v (.int .i64 a1)), (.v (.int .i64 a2))] (leHk h [])) : impl_within.S ar h (impl_within.res a0 a1 a2 y) (impl_within.out a0 a1 a2 y) := ⟨a0, a1, a2, y, H, (args_ok h0).1, (args_ok h0).2, rfl, rfl⟩
set_option maxHeartbeats 100000000 in
set_option maxRecDepth 100000 in
theorem impl_within.spec (a0 : Int) (a1 : Int) (a2 : Int) (y : Bool) (H : impl_within a0 a1 a2 = some y) : Spec Try.prog 108 [(.v (.int .i64 a0)), (.v (.int .i64 a1)), (.v (.int .i64 a2))] [] (impl_within.res a0 a1 a2 y) (impl_within.out a0 a1 a2 y) := by
  refine spec_intro G11_ok (ct := []) Try.func108 rfl (by kernel_rfl) (by kernel_rfl) rfl ?_
  repeat' first
    | ((with_reducible refine eqg ?_); exact rfl)
    | ((with_reducible refine KOb.mk ?_); kernel_rfl)
    | ((with_reducible intro h); (repeat (first | replace H := grd_k H | replace H := out_step H (by assumption))); first | replace H := cond_t h H | replace H := cond_f h H | exact absurd h (by decide) | skip)
    | ((with_reducible refine Ob.mk ?_); first | rfl | (repeat (first | exact grd_p H | replace H := grd_k H | replace H := out_step H (by assumption))))
    | (with_reducible exact True.intro)
    | constructor
    | ((conv => whnf); first
        | ((with_reducible refine Ob.mk ?_); first | rfl | (repeat (first | exact grd_p H | replace H := grd_k H | replace H := out_step H (by assumption))))
        | ((with_reducible refine fin_mk ?_); (repeat (first | replace H := grd_k H | replace H := out_step H (by assumption))); have H := Option.some.inj H; subst H))
def G12 : Env := G11.add 108 [] impl_within.S
theorem G12_ok : EnvOk Try.prog G12 := G11_ok.add ent_108 fun ar h r h1 ⟨a0, a1, a2, y, hy, e1, e2, e3, e4⟩ => by
  subst e3 e4; exact (impl_within.spec a0 a1 a2 y hy).le e1 e2
attribute [local irreducible] impl_within

noncomputable def impl_IsWindRule (a0 : WindRule) : Option (Bool) :=
  (cond (decide ((2 : Int) ≤ a0.1)) (cond (decide (a0.1 < a0.2.1)) (cond (decide (a0.2.1 ≤ (60 : Int))) ((impl_within a0.2.2.1 (1 : Int) (w64 (a0.1 - (1 : Int)))).bind fun y1 => (cond y1 ((impl_within a0.2.2.2.1 (1 : Int) (10 : Int)).bind fun y2 => (some y2)) ((some false)))) ((some false))) ((some false))) ((some false)))
def impl_IsWindRule.res (_ : WindRule) (y : Bool) : AV := (.bl y)
def impl_IsWindRule.out (_ : WindRule) (_ : Bool) : List (Option LB) := []
def impl_IsWindRule.S (ar : List AV) (h : List (Option LB)) (r : AV) (h1 : List (Option LB)) : Prop := ∃ a0 y, impl_IsWindRule a0 = some y ∧ leL ar [(.agg [(.v (.int .i64 a0.1)), (.v (.int .i64 a0.2.1)), (.v (.int .i64 a0.2.2.1)), (.v (.int .i64 a0.2.2.2.1))])] ∧ leH h [] ∧ r = impl_IsWindRule.res a0 y ∧ h1 = impl_IsWindRule.out a0 y
theorem impl_IsWindRule.call {ar : List AV} {h : List (Option LB)} {a0 : WindRule} {y : Bool} (H : impl_IsWindRule a0 = some y) (h0 : leLk ar [(.agg [(.v (.int .i64 a0.1)), (.v (.int .i64 a0.2.1)), (.v (.int .i64 a0.2.2.1)), (.v (.int .i64 a0.2.2.2.1))])] (leHk h [])) : impl_IsWindRule.S ar h (impl_IsWindRule.res a0 y) (impl_IsWindRule.out a0 y) := ⟨a0, y, H, (args_ok h0).1, (args_ok h0).2, rfl, rfl⟩
set_option maxHeartbeats 100000000 in
set_option maxRecDepth 100000 in
theorem impl_IsWindRule.spec (a0 : WindRule) (y : Bool) (H : impl_IsWindRule a0 = some y) : Spec Try.prog 47 [(.agg [(.v (.int .i64 a0.1)), (.v (.int .i64 a0.2.1)), (.v (.int .i64 a0.2.2.1)), (.v (.int .i64 a0.2.2.2.1))])] [] (impl_IsWindRule.res a0 y) (impl_IsWindRule.out a0 y) := by
  refine spec_intro G12_ok (ct := []) Try.func47 rfl (by kernel_rfl) (by kernel_rfl) rfl ?_
  repeat' first
    | ((with_reducible refine eqg ?_); exact rfl)
    | ((with_reducible refine KOb.mk ?_); kernel_rfl)
    | ((with_reducible intro h); (repeat (first | replace H := grd_k H | replace H := out_step H (by assumption))); first | replace H := cond_t h H | replace H := cond_f h H | exact absurd h (by decide) | skip)
    | ((with_reducible refine Ob.mk ?_); first | rfl | (repeat (first | exact grd_p H | replace H := grd_k H | replace H := out_step H (by assumption))))
    | (with_reducible exact True.intro)
    | constructor
    | ((conv => whnf); first
        | ((with_reducible refine Ob.mk ?_); first | rfl | (repeat (first | exact grd_p H | replace H := grd_k H | replace H := out_step H (by assumption))))
        | ((with_reducible refine CallW.mk ?_); (repeat (first | replace H := grd_k H | replace H := out_step H (by assumption))); replace H := bind_some H; obtain ⟨y, hy, H⟩ := H; first | ((with_reducible have hz : impl_within _ _ _ = some y := hy); clear hz; refine Exists.intro _ (Exists.intro _ ⟨impl_within.call hy ?_, rfl, rfl, ?_⟩)))
        | ((with_reducible refine fin_mk ?_); (repeat (first | replace H := grd_k H | replace H := out_step H (by assumption))); have H := Option.some.inj H; subst H))
def G13 : Env := G12.add 47 [] impl_IsWindRule.S
theorem G13_ok : EnvOk Try.prog G13 := G12_ok.add ent_47 fun ar h r h1 ⟨a0, y, hy, e1, e2, e3, e4⟩ => by
  subst e3 e4; exact (impl_IsWindRule.spec a0 y hy).le e1 e2
attribute [local irreducible] impl_IsWindRule

noncomputable def impl_windOk (a0 : WindRule) (a1 : WindState) : Option (Bool) :=
  ((impl_IsWindRule (a0.1, a0.2.1, a0.2.2.1, a0.2.2.2.1, ())).bind fun y1 => (cond y1 ((impl_within a1.1 (0 : Int) (2 : Int)).bind fun y2 => (cond y2 ((impl_within a1.2.1 (0 : Int) (w64 (a0.2.2.2.1 - (1 : Int)))).bind fun y3 => (cond y3 (cond (!decide (a1.1 = (0 : Int))) ((some true)) ((some (decide (a1.2.1 = (0 : Int)))))) ((some false)))) ((some false)))) ((some false))))
def impl_windOk.res (_ : WindRule) (_ : WindState) (y : Bool) : AV := (.bl y)
def impl_windOk.out (_ : WindRule) (_ : WindState) (_ : Bool) : List (Option LB) := []
def impl_windOk.S (ar : List AV) (h : List (Option LB)) (r : AV) (h1 : List (Option LB)) : Prop := ∃ a0 a1 y, impl_windOk a0 a1 = some y ∧ leL ar [(.agg [(.v (.int .i64 a0.1)), (.v (.int .i64 a0.2.1)), (.v (.int .i64 a0.2.2.1)), (.v (.int .i64 a0.2.2.2.1))]), (.agg [(.v (.int .i64 a1.1)), (.v (.int .i64 a1.2.1))])] ∧ leH h [] ∧ r = impl_windOk.res a0 a1 y ∧ h1 = impl_windOk.out a0 a1 y
theorem impl_windOk.call {ar : List AV} {h : List (Option LB)} {a0 : WindRule} {a1 : WindState} {y : Bool} (H : impl_windOk a0 a1 = some y) (h0 : leLk ar [(.agg [(.v (.int .i64 a0.1)), (.v (.int .i64 a0.2.1)), (.v (.int .i64 a0.2.2.1)), (.v (.int .i64 a0.2.2.2.1))]), (.agg [(.v (.int .i64 a1.1)), (.v (.int .i64 a1.2.1))])] (leHk h [])) : impl_windOk.S ar h (impl_windOk.res a0 a1 y) (impl_windOk.out a0 a1 y) := ⟨a0, a1, y, H, (args_ok h0).1, (args_ok h0).2, rfl, rfl⟩
set_option maxHeartbeats 100000000 in
set_option maxRecDepth 100000 in
theorem impl_windOk.spec (a0 : WindRule) (a1 : WindState) (y : Bool) (H : impl_windOk a0 a1 = some y) : Spec Try.prog 94 [(.agg [(.v (.int .i64 a0.1)), (.v (.int .i64 a0.2.1)), (.v (.int .i64 a0.2.2.1)), (.v (.int .i64 a0.2.2.2.1))]), (.agg [(.v (.int .i64 a1.1)), (.v (.int .i64 a1.2.1))])] [] (impl_windOk.res a0 a1 y) (impl_windOk.out a0 a1 y) := by
  refine spec_intro G13_ok (ct := []) Try.func94 rfl (by kernel_rfl) (by kernel_rfl) rfl ?_
  repeat' first
    | ((with_reducible refine eqg ?_); exact rfl)
    | ((with_reducible refine KOb.mk ?_); kernel_rfl)
    | ((with_reducible intro h); (repeat (first | replace H := grd_k H | replace H := out_step H (by assumption))); first | replace H := cond_t h H | replace H := cond_f h H | exact absurd h (by decide) | skip)
    | ((with_reducible refine Ob.mk ?_); first | rfl | (repeat (first | exact grd_p H | replace H := grd_k H | replace H := out_step H (by assumption))))
    | (with_reducible exact True.intro)
    | constructor
    | ((conv => whnf); first
        | ((with_reducible refine Ob.mk ?_); first | rfl | (repeat (first | exact grd_p H | replace H := grd_k H | replace H := out_step H (by assumption))))
        | ((with_reducible refine CallW.mk ?_); (repeat (first | replace H := grd_k H | replace H := out_step H (by assumption))); replace H := bind_some H; obtain ⟨y, hy, H⟩ := H; first | ((with_reducible have hz : impl_IsWindRule _ = some y := hy); clear hz; refine Exists.intro _ (Exists.intro _ ⟨impl_IsWindRule.call hy ?_, rfl, rfl, ?_⟩)) | ((with_reducible have hz : impl_within _ _ _ = some y := hy); clear hz; refine Exists.intro _ (Exists.intro _ ⟨impl_within.call hy ?_, rfl, rfl, ?_⟩)))
        | ((with_reducible refine fin_mk ?_); (repeat (first | replace H := grd_k H | replace H := out_step H (by assumption))); have H := Option.some.inj H; subst H))
def G14 : Env := G13.add 94 [] impl_windOk.S
theorem G14_ok : EnvOk Try.prog G14 := G13_ok.add ent_94 fun ar h r h1 ⟨a0, a1, y, hy, e1, e2, e3, e4⟩ => by
  subst e3 e4; exact (impl_windOk.spec a0 a1 y hy).le e1 e2
attribute [local irreducible] impl_windOk

noncomputable def impl_allIn_loop1 (a0 : (List Int)) (a1 : Int) (a2 : Int) (v4 : Int) : Option (Lp (Int) ((Unit) ⊕ (Unit))) :=
  (cond (decide (v4 < (a0.length : Int))) (grd (0 ≤ v4 ∧ v4 < (a0.length : Int)) ((impl_within (a0.getD v4.toNat 0) a1 a2).bind fun y5 => (cond (!y5) ((some (.out (Sum.inl ())))) (some (.go (w64 (v4 + (1 : Int)))))))) ((some (.out (Sum.inr ())))))
noncomputable def impl_allIn (a0 : (List Int)) (a1 : Int) (a2 : Int) : Option (Bool) :=
  ((iter (fun s => impl_allIn_loop1 a0 a1 a2 s) (0 : Int)).bind (Sum.elim (fun r7 => (some false)) (fun r8 => (some true))))
def impl_allIn.res (_ : (List Int)) (_ : Int) (_ : Int) (y : Bool) : AV := (.bl y)
def impl_allIn.out (_ : (List Int)) (_ : Int) (_ : Int) (_ : Bool) : List (Option LB) := []
def impl_allIn.S (ar : List AV) (h : List (Option LB)) (r : AV) (h1 : List (Option LB)) : Prop := ∃ a0 a1 a2 y, impl_allIn a0 a1 a2 = some y ∧ leL ar [(.tree (.int .i64) a0), (.v (.int .i64 a1)), (.v (.int .i64 a2))] ∧ leH h [] ∧ r = impl_allIn.res a0 a1 a2 y ∧ h1 = impl_allIn.out a0 a1 a2 y
theorem impl_allIn.call {ar : List AV} {h : List (Option LB)} {a0 : (List Int)} {a1 : Int} {a2 : Int} {y : Bool} (H : impl_allIn a0 a1 a2 = some y) (h0 : leLk ar [(.tree (.int .i64) a0), (.v (.int .i64 a1)), (.v (.int .i64 a2))] (leHk h [])) : impl_allIn.S ar h (impl_allIn.res a0 a1 a2 y) (impl_allIn.out a0 a1 a2 y) := ⟨a0, a1, a2, y, H, (args_ok h0).1, (args_ok h0).2, rfl, rfl⟩
set_option maxHeartbeats 100000000 in
set_option maxRecDepth 100000 in
theorem impl_allIn.spec (a0 : (List Int)) (a1 : Int) (a2 : Int) (y : Bool) (H : impl_allIn a0 a1 a2 = some y) : Spec Try.prog 133 [(.tree (.int .i64) a0), (.v (.int .i64 a1)), (.v (.int .i64 a2))] [] (impl_allIn.res a0 a1 a2 y) (impl_allIn.out a0 a1 a2 y) := by
  refine spec_intro G14_ok (ct := []) Try.func133 rfl (by kernel_rfl) (by kernel_rfl) rfl ?_
  repeat' first
    | ((with_reducible refine eqg ?_); exact rfl)
    | ((with_reducible refine KOb.mk ?_); kernel_rfl)
    | ((with_reducible intro h); (repeat (first | replace H := grd_k H | replace H := out_step H (by assumption))); first | replace H := cond_t h H | replace H := cond_f h H | exact absurd h (by decide) | skip)
    | ((with_reducible refine Ob.mk ?_); first | rfl | (repeat (first | exact grd_p H | replace H := grd_k H | replace H := out_step H (by assumption))))
    | (with_reducible exact True.intro)
    | constructor
    | ((conv => whnf); first
        | ((with_reducible refine Ob.mk ?_); first | rfl | (repeat (first | exact grd_p H | replace H := grd_k H | replace H := out_step H (by assumption))))
        | ((with_reducible refine CallW.mk ?_); (repeat (first | replace H := grd_k H | replace H := out_step H (by assumption))); replace H := bind_some H; obtain ⟨y, hy, H⟩ := H; first | ((with_reducible have hz : impl_within _ _ _ = some y := hy); clear hz; refine Exists.intro _ (Exists.intro _ ⟨impl_within.call hy ?_, rfl, rfl, ?_⟩)))
        | ((repeat (first | replace H := grd_k H | replace H := out_step H (by assumption))); refine loop_iter G14_ok (ct := []) (F := (fun s1 : Int => ⟨sl [(1, (.v (.int .i64 a1))), (2, (.v (.int .i64 a2))), (9, (.tree (.int .i64) a0)), (10, (.v (.int .i64 (a0.length : Int)))), (11, (.v (.int .i64 s1)))], []⟩)) (step := (fun s : Int => impl_allIn_loop1 _ _ _ s)) _ H (by kernel_rfl) (sub_auto ?_) ?_; rotate_left; (intro s1 r v hr H); rotate_right)
        | ((repeat (first | replace H := grd_k H | replace H := out_step H (by assumption))); refine again_step H (by assumption) (sub_auto ?_))
        | ((with_reducible refine fin_mk ?_); (repeat (first | replace H := grd_k H | replace H := out_step H (by assumption))); have H := Option.some.inj H; subst H))
def G15 : Env := G14.add 133 [] impl_allIn.S
theorem G15_ok : EnvOk Try.prog G15 := G14_ok.add ent_133 fun ar h r h1 ⟨a0, a1, a2, y, hy, e1, e2, e3, e4⟩ => by
  subst e3 e4; exact (impl_allIn.spec a0 a1 a2 y hy).le e1 e2
attribute [local irreducible] impl_allIn

noncomputable def impl_areVotes (a0 : (List Int)) : Option (Bool) :=
  (cond (decide ((a0.length : Int) ≤ (50 : Int))) ((impl_allIn a0 (0 : Int) (60 : Int)).bind fun y1 => (some y1)) ((some false)))
def impl_areVotes.res (_ : (List Int)) (y : Bool) : AV := (.bl y)
def impl_areVotes.out (_ : (List Int)) (_ : Bool) : List (Option LB) := []
def impl_areVotes.S (ar : List AV) (h : List (Option LB)) (r : AV) (h1 : List (Option LB)) : Prop := ∃ a0 y, impl_areVotes a0 = some y ∧ leL ar [(.tree (.int .i64) a0)] ∧ leH h [] ∧ r = impl_areVotes.res a0 y ∧ h1 = impl_areVotes.out a0 y
theorem impl_areVotes.call {ar : List AV} {h : List (Option LB)} {a0 : (List Int)} {y : Bool} (H : impl_areVotes a0 = some y) (h0 : leLk ar [(.tree (.int .i64) a0)] (leHk h [])) : impl_areVotes.S ar h (impl_areVotes.res a0 y) (impl_areVotes.out a0 y) := ⟨a0, y, H, (args_ok h0).1, (args_ok h0).2, rfl, rfl⟩
set_option maxHeartbeats 100000000 in
set_option maxRecDepth 100000 in
theorem impl_areVotes.spec (a0 : (List Int)) (y : Bool) (H : impl_areVotes a0 = some y) : Spec Try.prog 91 [(.tree (.int .i64) a0)] [] (impl_areVotes.res a0 y) (impl_areVotes.out a0 y) := by
  refine spec_intro G15_ok (ct := []) Try.func91 rfl (by kernel_rfl) (by kernel_rfl) rfl ?_
  repeat' first
    | ((with_reducible refine eqg ?_); exact rfl)
    | ((with_reducible refine KOb.mk ?_); kernel_rfl)
    | ((with_reducible intro h); (repeat (first | replace H := grd_k H | replace H := out_step H (by assumption))); first | replace H := cond_t h H | replace H := cond_f h H | exact absurd h (by decide) | skip)
    | ((with_reducible refine Ob.mk ?_); first | rfl | (repeat (first | exact grd_p H | replace H := grd_k H | replace H := out_step H (by assumption))))
    | (with_reducible exact True.intro)
    | constructor
    | ((conv => whnf); first
        | ((with_reducible refine Ob.mk ?_); first | rfl | (repeat (first | exact grd_p H | replace H := grd_k H | replace H := out_step H (by assumption))))
        | ((with_reducible refine CallW.mk ?_); (repeat (first | replace H := grd_k H | replace H := out_step H (by assumption))); replace H := bind_some H; obtain ⟨y, hy, H⟩ := H; first | ((with_reducible have hz : impl_allIn _ _ _ = some y := hy); clear hz; refine Exists.intro _ (Exists.intro _ ⟨impl_allIn.call hy ?_, rfl, rfl, ?_⟩)))
        | ((with_reducible refine fin_mk ?_); (repeat (first | replace H := grd_k H | replace H := out_step H (by assumption))); have H := Option.some.inj H; subst H))
def G16 : Env := G15.add 91 [] impl_areVotes.S
theorem G16_ok : EnvOk Try.prog G16 := G15_ok.add ent_91 fun ar h r h1 ⟨a0, y, hy, e1, e2, e3, e4⟩ => by
  subst e3 e4; exact (impl_areVotes.spec a0 y hy).le e1 e2
attribute [local irreducible] impl_areVotes

noncomputable def impl_WindRule_next (a0 : WindRule) (a1 : WindState) (a2 : Int) : Option (WindState) :=
  (cond (decide (a0.2.1 ≤ a2)) ((some ((2 : Int), (0 : Int), ()))) (cond (decide (a1.1 = (0 : Int))) (cond (decide (a0.1 ≤ a2)) ((some ((1 : Int), (0 : Int), ()))) (cond (decide (a1.1 = (0 : Int))) ((some (a1.1, a1.2.1, ()))) ((cond (decide (a1.1 = (2 : Int))) ((some a0.2.1)) ((some a0.1))).bind fun z1 => (cond (decide ((w64 (z1 - a0.2.2.1)) ≤ a2)) ((some (a1.1, (0 : Int), ()))) (cond (decide ((w64 (a1.2.1 + (1 : Int))) = a0.2.2.2.1)) ((some ((w64 (a1.1 - (1 : Int))), (0 : Int), ()))) ((some (a1.1, (w64 (a1.2.1 + (1 : Int))), ())))))))) (cond (decide (a1.1 = (0 : Int))) ((some (a1.1, a1.2.1, ()))) ((cond (decide (a1.1 = (2 : Int))) ((some a0.2.1)) ((some a0.1))).bind fun z2 => (cond (decide ((w64 (z2 - a0.2.2.1)) ≤ a2)) ((some (a1.1, (0 : Int), ()))) (cond (decide ((w64 (a1.2.1 + (1 : Int))) = a0.2.2.2.1)) ((some ((w64 (a1.1 - (1 : Int))), (0 : Int), ()))) ((some (a1.1, (w64 (a1.2.1 + (1 : Int))), ())))))))))
def impl_WindRule_next.res (_ : WindRule) (_ : WindState) (_ : Int) (y : WindState) : AV := (.agg [(.v (.int .i64 y.1)), (.v (.int .i64 y.2.1))])
def impl_WindRule_next.out (_ : WindRule) (_ : WindState) (_ : Int) (_ : WindState) : List (Option LB) := []
def impl_WindRule_next.S (ar : List AV) (h : List (Option LB)) (r : AV) (h1 : List (Option LB)) : Prop := ∃ a0 a1 a2 y, impl_WindRule_next a0 a1 a2 = some y ∧ leL ar [(.agg [(.v (.int .i64 a0.1)), (.v (.int .i64 a0.2.1)), (.v (.int .i64 a0.2.2.1)), (.v (.int .i64 a0.2.2.2.1))]), (.agg [(.v (.int .i64 a1.1)), (.v (.int .i64 a1.2.1))]), (.v (.int .i64 a2))] ∧ leH h [] ∧ r = impl_WindRule_next.res a0 a1 a2 y ∧ h1 = impl_WindRule_next.out a0 a1 a2 y
theorem impl_WindRule_next.call {ar : List AV} {h : List (Option LB)} {a0 : WindRule} {a1 : WindState} {a2 : Int} {y : WindState} (H : impl_WindRule_next a0 a1 a2 = some y) (h0 : leLk ar [(.agg [(.v (.int .i64 a0.1)), (.v (.int .i64 a0.2.1)), (.v (.int .i64 a0.2.2.1)), (.v (.int .i64 a0.2.2.2.1))]), (.agg [(.v (.int .i64 a1.1)), (.v (.int .i64 a1.2.1))]), (.v (.int .i64 a2))] (leHk h [])) : impl_WindRule_next.S ar h (impl_WindRule_next.res a0 a1 a2 y) (impl_WindRule_next.out a0 a1 a2 y) := ⟨a0, a1, a2, y, H, (args_ok h0).1, (args_ok h0).2, rfl, rfl⟩
set_option maxHeartbeats 100000000 in
set_option maxRecDepth 100000 in
theorem impl_WindRule_next.spec (a0 : WindRule) (a1 : WindState) (a2 : Int) (y : WindState) (H : impl_WindRule_next a0 a1 a2 = some y) : Spec Try.prog 109 [(.agg [(.v (.int .i64 a0.1)), (.v (.int .i64 a0.2.1)), (.v (.int .i64 a0.2.2.1)), (.v (.int .i64 a0.2.2.2.1))]), (.agg [(.v (.int .i64 a1.1)), (.v (.int .i64 a1.2.1))]), (.v (.int .i64 a2))] [] (impl_WindRule_next.res a0 a1 a2 y) (impl_WindRule_next.out a0 a1 a2 y) := by
  refine spec_intro G16_ok (ct := [(10, none), (4, some [2, 3, 4, 6, 14]), (9, some [2, 3, 4, 6, 7, 34]), (14, some [4, 6, 54])]) Try.func109 rfl (by kernel_rfl) (by kernel_rfl) rfl ?_
  repeat' first
    | ((with_reducible refine eqg ?_); exact rfl)
    | ((with_reducible refine KOb.mk ?_); kernel_rfl)
    | ((with_reducible intro h); (repeat (first | replace H := grd_k H | replace H := out_step H (by assumption))); first | replace H := cond_t h H | replace H := cond_f h H | exact absurd h (by decide) | skip)
    | ((with_reducible refine Ob.mk ?_); first | rfl | (repeat (first | exact grd_p H | replace H := grd_k H | replace H := out_step H (by assumption))))
    | (with_reducible exact True.intro)
    | constructor
    | ((conv => whnf); first
        | ((with_reducible refine Ob.mk ?_); first | rfl | (repeat (first | exact grd_p H | replace H := grd_k H | replace H := out_step H (by assumption))))
        | ((with_reducible refine cutAt (id := 10) ?_); (repeat (first | replace H := grd_k H | replace H := out_step H (by assumption))); first | (replace H := bind_some H; obtain ⟨z, hz, H⟩ := H; refine CutC.mk (id := 10) ⟨sl [(2, (.v (.int .i64 a2))), (3, (.loc 0 0 0)), (4, (.loc 1 0 0)), (6, (.loc 2 0 0)), (7, (.v (.int .i64 z)))], [some (.box 27 [(.v (.int .i64 a0.1)), (.v (.int .i64 a0.2.1)), (.v (.int .i64 a0.2.2.1)), (.v (.int .i64 a0.2.2.2.1))]), some (.box 36 [(.v (.int .i64 a1.1)), (.v (.int .i64 a1.2.1))]), some (.box 36 [(.v (.int .i64 (0 : Int))), (.v (.int .i64 (0 : Int)))])]⟩ ?_ ?_; (replace H := hz)))
        | ((repeat (first | replace H := grd_k H | replace H := out_step H (by assumption))); have H := Option.some.inj H; subst H; with_reducible refine sub_auto ?_)
        | ((with_reducible refine fin_mk ?_); (repeat (first | replace H := grd_k H | replace H := out_step H (by assumption))); have H := Option.some.inj H; subst H))
def G17 : Env := G16.add 109 [] impl_WindRule_next.S
theorem G17_ok : EnvOk Try.prog G17 := G16_ok.add ent_109 fun ar h r h1 ⟨a0, a1, a2, y, hy, e1, e2, e3, e4⟩ => by
  subst e3 e4; exact (impl_WindRule_next.spec a0 a1 a2 y hy).le e1 e2
attribute [local irreducible] impl_WindRule_next

noncomputable def impl_WindRule_run_loop1 (a0 : WindRule) (a2 : (List Int)) (v7 : Int) (v8 : Int) (v9 : Int) (v10 : (List Int)) : Option (Lp (Int × Int × Int × (List Int)) ((Int × Int × (List Int)))) :=
  (cond (decide (v7 < (a2.length : Int))) (grd (0 ≤ v7 ∧ v7 < (a2.length : Int)) ((impl_WindRule_next (a0.1, a0.2.1, a0.2.2.1, a0.2.2.2.1, ()) (v8, v9, ()) (a2.getD v7.toNat 0)).bind fun y11 => (grd ((v10.length + [y11.1].length) * 8 ≤ 140737488355328 ∧ v10.length + [y11.1].length ≤ 140737488355328) (some (.go ((w64 (v7 + (1 : Int))), y11.1, y11.2.1, (v10 ++ [y11.1]))))))) ((some (.out (v8, v9, v10)))))
noncomputable def impl_WindRule_run (a0 : WindRule) (a1 : WindState) (a2 : (List Int)) : Option ((List Int) × WindState) :=
  ((iter (fun s => impl_WindRule_run_loop1 a0 a2 s.1 s.2.1 s.2.2.1 s.2.2.2) ((0 : Int), a1.1, a1.2.1, ([] : List Int))).bind (fun r12 => (some (r12.2.2, (r12.1, r12.2.1, ())))))
def impl_WindRule_run.res (_ : WindRule) (_ : WindState) (_ : (List Int)) (y : (List Int) × WindState) : AV := (.tup [(.own 0), (.agg [(.v (.int .i64 y.2.1)), (.v (.int .i64 y.2.2.1))])])
def impl_WindRule_run.out (_ : WindRule) (_ : WindState) (_ : (List Int)) (y : (List Int) × WindState) : List (Option LB) := [some (.arr 3 (.int .i64) y.1)]
def impl_WindRule_run.S (ar : List AV) (h : List (Option LB)) (r : AV) (h1 : List (Option LB)) : Prop := ∃ a0 a1 a2 y, impl_WindRule_run a0 a1 a2 = some y ∧ leL ar [(.agg [(.v (.int .i64 a0.1)), (.v (.int .i64 a0.2.1)), (.v (.int .i64 a0.2.2.1)), (.v (.int .i64 a0.2.2.2.1))]), (.agg [(.v (.int .i64 a1.1)), (.v (.int .i64 a1.2.1))]), (.tree (.int .i64) a2)] ∧ leH h [] ∧ r = impl_WindRule_run.res a0 a1 a2 y ∧ h1 = impl_WindRule_run.out a0 a1 a2 y
theorem impl_WindRule_run.call {ar : List AV} {h : List (Option LB)} {a0 : WindRule} {a1 : WindState} {a2 : (List Int)} {y : (List Int) × WindState} (H : impl_WindRule_run a0 a1 a2 = some y) (h0 : leLk ar [(.agg [(.v (.int .i64 a0.1)), (.v (.int .i64 a0.2.1)), (.v (.int .i64 a0.2.2.1)), (.v (.int .i64 a0.2.2.2.1))]), (.agg [(.v (.int .i64 a1.1)), (.v (.int .i64 a1.2.1))]), (.tree (.int .i64) a2)] (leHk h [])) : impl_WindRule_run.S ar h (impl_WindRule_run.res a0 a1 a2 y) (impl_WindRule_run.out a0 a1 a2 y) := ⟨a0, a1, a2, y, H, (args_ok h0).1, (args_ok h0).2, rfl, rfl⟩
set_option maxHeartbeats 100000000 in
set_option maxRecDepth 100000 in
theorem impl_WindRule_run.spec (a0 : WindRule) (a1 : WindState) (a2 : (List Int)) (y : (List Int) × WindState) (H : impl_WindRule_run a0 a1 a2 = some y) : Spec Try.prog 92 [(.agg [(.v (.int .i64 a0.1)), (.v (.int .i64 a0.2.1)), (.v (.int .i64 a0.2.2.1)), (.v (.int .i64 a0.2.2.2.1))]), (.agg [(.v (.int .i64 a1.1)), (.v (.int .i64 a1.2.1))]), (.tree (.int .i64) a2)] [] (impl_WindRule_run.res a0 a1 a2 y) (impl_WindRule_run.out a0 a1 a2 y) := by
  refine spec_intro G17_ok (ct := [(7, some [3, 4, 7, 8, 12, 13, 14])]) Try.func92 rfl (by kernel_rfl) (by kernel_rfl) rfl ?_
  repeat' first
    | ((with_reducible refine eqg ?_); exact rfl)
    | ((with_reducible refine KOb.mk ?_); kernel_rfl)
    | ((with_reducible intro h); (repeat (first | replace H := grd_k H | replace H := out_step H (by assumption))); first | replace H := cond_t h H | replace H := cond_f h H | exact absurd h (by decide) | skip)
    | ((with_reducible refine Ob.mk ?_); first | rfl | (repeat (first | exact grd_p H | replace H := grd_k H | replace H := out_step H (by assumption))))
    | (with_reducible exact True.intro)
    | constructor
    | ((conv => whnf); first
        | ((with_reducible refine Ob.mk ?_); first | rfl | (repeat (first | exact grd_p H | replace H := grd_k H | replace H := out_step H (by assumption))))
        | ((with_reducible refine CallW.mk ?_); (repeat (first | replace H := grd_k H | replace H := out_step H (by assumption))); replace H := bind_some H; obtain ⟨y, hy, H⟩ := H; first | ((with_reducible have hz : impl_WindRule_next _ _ _ = some y := hy); clear hz; refine Exists.intro _ (Exists.intro _ ⟨impl_WindRule_next.call hy ?_, rfl, rfl, ?_⟩)))
        | ((repeat (first | replace H := grd_k H | replace H := out_step H (by assumption))); refine loop_iter G17_ok (ct := [(7, some [3, 4, 7, 8, 12, 13, 14])]) (F := (fun s1 : Int × Int × Int × (List Int) => ⟨sl [(3, (.loc 0 0 0)), (4, (.loc 1 0 0)), (7, (.loc 2 0 0)), (8, (.own 3)), (12, (.tree (.int .i64) a2)), (13, (.v (.int .i64 (a2.length : Int)))), (14, (.v (.int .i64 s1.1)))], [some (.box 27 [(.v (.int .i64 a0.1)), (.v (.int .i64 a0.2.1)), (.v (.int .i64 a0.2.2.1)), (.v (.int .i64 a0.2.2.2.1))]), some (.box 36 [(.v (.int .i64 s1.2.1)), (.v (.int .i64 s1.2.2.1))]), some (.box 36 [(.v (.int .i64 (0 : Int))), (.v (.int .i64 (0 : Int)))]), some (.arr 3 (.int .i64) s1.2.2.2)]⟩)) (step := (fun s : Int × Int × Int × (List Int) => impl_WindRule_run_loop1 _ _ s.1 s.2.1 s.2.2.1 s.2.2.2)) _ H (by kernel_rfl) (sub_auto ?_) ?_; rotate_left; (intro s1 r v hr H); rotate_right)
        | ((repeat (first | replace H := grd_k H | replace H := out_step H (by assumption))); refine again_step H (by assumption) (sub_auto ?_))
        | ((with_reducible refine fin_mk ?_); (repeat (first | replace H := grd_k H | replace H := out_step H (by assumption))); have H := Option.some.inj H; subst H))
def G18 : Env := G17.add 92 [] impl_WindRule_run.S
theorem G18_ok : EnvOk Try.prog G18 := G17_ok.add ent_92 fun ar h r h1 ⟨a0, a1, a2, y, hy, e1, e2, e3, e4⟩ => by
  subst e3 e4; exact (impl_WindRule_run.spec a0 a1 a2 y hy).le e1 e2
attribute [local irreducible] impl_WindRule_run

noncomputable def impl_RunWind (a0 : WindRule) (a1 : WindState) (a2 : (List Int)) : Option ((WindState) ⊕ ((List Int) × WindState)) :=
  ((impl_windOk (a0.1, a0.2.1, a0.2.2.1, a0.2.2.2.1, ()) (a1.1, a1.2.1, ())).bind fun y1 => (cond (!y1) ((some (Sum.inl ((0 : Int), (0 : Int), ())))) ((impl_areVotes a2).bind fun y2 => (cond (!y2) ((some (Sum.inl ((0 : Int), (0 : Int), ())))) ((impl_WindRule_run (a0.1, a0.2.1, a0.2.2.1, a0.2.2.2.1, ()) (a1.1, a1.2.1, ()) a2).bind fun y3 => (some (Sum.inr (y3.1, (y3.2.1, y3.2.2.1, ())))))))))
def impl_RunWind.res (_ : WindRule) (_ : WindState) (_ : (List Int)) (y : (WindState) ⊕ ((List Int) × WindState)) : AV := match y with
  | (.inl y) => (.tup [(.v (.slice none 0 0)), (.agg [(.v (.int .i64 y.1)), (.v (.int .i64 y.2.1))]), (.v (.bool false))])
  | (.inr y) => (.tup [(.own 0), (.agg [(.v (.int .i64 y.2.1)), (.v (.int .i64 y.2.2.1))]), (.v (.bool true))])
def impl_RunWind.out (_ : WindRule) (_ : WindState) (_ : (List Int)) (y : (WindState) ⊕ ((List Int) × WindState)) : List (Option LB) := match y with
  | (.inl y) => []
  | (.inr y) => [some (.arr 3 (.int .i64) y.1)]
def impl_RunWind.S (ar : List AV) (h : List (Option LB)) (r : AV) (h1 : List (Option LB)) : Prop := ∃ a0 a1 a2 y, impl_RunWind a0 a1 a2 = some y ∧ leL ar [(.agg [(.v (.int .i64 a0.1)), (.v (.int .i64 a0.2.1)), (.v (.int .i64 a0.2.2.1)), (.v (.int .i64 a0.2.2.2.1))]), (.agg [(.v (.int .i64 a1.1)), (.v (.int .i64 a1.2.1))]), (.tree (.int .i64) a2)] ∧ leH h [] ∧ r = impl_RunWind.res a0 a1 a2 y ∧ h1 = impl_RunWind.out a0 a1 a2 y
theorem impl_RunWind.call {ar : List AV} {h : List (Option LB)} {a0 : WindRule} {a1 : WindState} {a2 : (List Int)} {y : (WindState) ⊕ ((List Int) × WindState)} (H : impl_RunWind a0 a1 a2 = some y) (h0 : leLk ar [(.agg [(.v (.int .i64 a0.1)), (.v (.int .i64 a0.2.1)), (.v (.int .i64 a0.2.2.1)), (.v (.int .i64 a0.2.2.2.1))]), (.agg [(.v (.int .i64 a1.1)), (.v (.int .i64 a1.2.1))]), (.tree (.int .i64) a2)] (leHk h [])) : impl_RunWind.S ar h (impl_RunWind.res a0 a1 a2 y) (impl_RunWind.out a0 a1 a2 y) := ⟨a0, a1, a2, y, H, (args_ok h0).1, (args_ok h0).2, rfl, rfl⟩
set_option maxHeartbeats 100000000 in
set_option maxRecDepth 100000 in
theorem impl_RunWind.spec (a0 : WindRule) (a1 : WindState) (a2 : (List Int)) (y : (WindState) ⊕ ((List Int) × WindState)) (H : impl_RunWind a0 a1 a2 = some y) : Spec Try.prog 24 [(.agg [(.v (.int .i64 a0.1)), (.v (.int .i64 a0.2.1)), (.v (.int .i64 a0.2.2.1)), (.v (.int .i64 a0.2.2.2.1))]), (.agg [(.v (.int .i64 a1.1)), (.v (.int .i64 a1.2.1))]), (.tree (.int .i64) a2)] [] (impl_RunWind.res a0 a1 a2 y) (impl_RunWind.out a0 a1 a2 y) := by
  have hlen : Nat.ble ([] : List (Option LB)).length (impl_RunWind.out a0 a1 a2 y).length = true := by
    rcases y with y | y <;> rfl
  refine spec_intro G18_ok (ct := [(2, some [2, 3, 4, 7, 19])]) Try.func24 rfl (by kernel_rfl) (by kernel_rfl) hlen ?_
  repeat' first
    | ((with_reducible refine eqg ?_); exact rfl)
    | ((with_reducible refine KOb.mk ?_); kernel_rfl)
    | ((with_reducible intro h); (repeat (first | replace H := grd_k H | replace H := out_step H (by assumption))); first | replace H := cond_t h H | replace H := cond_f h H | exact absurd h (by decide) | skip)
    | ((with_reducible refine Ob.mk ?_); first | rfl | (repeat (first | exact grd_p H | replace H := grd_k H | replace H := out_step H (by assumption))))
    | (with_reducible exact True.intro)
    | constructor
    | ((conv => whnf); first
        | ((with_reducible refine Ob.mk ?_); first | rfl | (repeat (first | exact grd_p H | replace H := grd_k H | replace H := out_step H (by assumption))))
        | ((with_reducible refine CallW.mk ?_); (repeat (first | replace H := grd_k H | replace H := out_step H (by assumption))); replace H := bind_some H; obtain ⟨y, hy, H⟩ := H; first | ((with_reducible have hz : impl_windOk _ _ = some y := hy); clear hz; refine Exists.intro _ (Exists.intro _ ⟨impl_windOk.call hy ?_, rfl, rfl, ?_⟩)) | ((with_reducible have hz : impl_areVotes _ = some y := hy); clear hz; refine Exists.intro _ (Exists.intro _ ⟨impl_areVotes.call hy ?_, rfl, rfl, ?_⟩)) | ((with_reducible have hz : impl_WindRule_run _ _ _ = some y := hy); clear hz; refine Exists.intro _ (Exists.intro _ ⟨impl_WindRule_run.call hy ?_, rfl, rfl, ?_⟩)))
        | ((with_reducible refine fin_mk ?_); (repeat (first | replace H := grd_k H | replace H := out_step H (by assumption))); have H := Option.some.inj H; subst H))
def G19 : Env := G18.add 24 [] impl_RunWind.S
theorem G19_ok : EnvOk Try.prog G19 := G18_ok.add ent_24 fun ar h r h1 ⟨a0, a1, a2, y, hy, e1, e2, e3, e4⟩ => by
  subst e3 e4; exact (impl_RunWind.spec a0 a1 a2 y hy).le e1 e2
attribute [local irreducible] impl_RunWind

noncomputable def laws_eqIntS_loop1 (a0 : (List Int)) (a1 : (List Int)) (v2 : Int) : Option (Lp (Int) ((Unit) ⊕ (Unit))) :=
  (cond (decide (v2 < (a0.length : Int))) (grd (0 ≤ v2 ∧ v2 < (a0.length : Int)) (grd (0 ≤ v2 ∧ v2 < (a1.length : Int)) (cond (!decide ((a0.getD v2.toNat 0) = (a1.getD v2.toNat 0))) ((some (.out (Sum.inl ())))) (some (.go (w64 (v2 + (1 : Int)))))))) ((some (.out (Sum.inr ())))))
noncomputable def laws_eqIntS (a0 : (List Int)) (a1 : (List Int)) : Option (Bool) :=
  (cond (!decide ((a0.length : Int) = (a1.length : Int))) ((some false)) ((iter (fun s => laws_eqIntS_loop1 a0 a1 s) (0 : Int)).bind (Sum.elim (fun r4 => (some false)) (fun r5 => (some true)))))
def laws_eqIntS.res (_ : (List Int)) (_ : (List Int)) (y : Bool) : AV := (.bl y)
def laws_eqIntS.out (_ : (List Int)) (_ : (List Int)) (_ : Bool) : List (Option LB) := []
def laws_eqIntS.S (ar : List AV) (h : List (Option LB)) (r : AV) (h1 : List (Option LB)) : Prop := ∃ a0 a1 y, laws_eqIntS a0 a1 = some y ∧ leL ar [(.tree (.int .i64) a0), (.tree (.int .i64) a1)] ∧ leH h [] ∧ r = laws_eqIntS.res a0 a1 y ∧ h1 = laws_eqIntS.out a0 a1 y
theorem laws_eqIntS.call {ar : List AV} {h : List (Option LB)} {a0 : (List Int)} {a1 : (List Int)} {y : Bool} (H : laws_eqIntS a0 a1 = some y) (h0 : leLk ar [(.tree (.int .i64) a0), (.tree (.int .i64) a1)] (leHk h [])) : laws_eqIntS.S ar h (laws_eqIntS.res a0 a1 y) (laws_eqIntS.out a0 a1 y) := ⟨a0, a1, y, H, (args_ok h0).1, (args_ok h0).2, rfl, rfl⟩
set_option maxHeartbeats 100000000 in
set_option maxRecDepth 100000 in
theorem laws_eqIntS.spec (a0 : (List Int)) (a1 : (List Int)) (y : Bool) (H : laws_eqIntS a0 a1 = some y) : Spec Try.prog 19 [(.tree (.int .i64) a0), (.tree (.int .i64) a1)] [] (laws_eqIntS.res a0 a1 y) (laws_eqIntS.out a0 a1 y) := by
  refine spec_intro G19_ok (ct := [(5, some [0, 1, 5])]) Try.func19 rfl (by kernel_rfl) (by kernel_rfl) rfl ?_
  repeat' first
    | ((with_reducible refine eqg ?_); exact rfl)
    | ((with_reducible refine KOb.mk ?_); kernel_rfl)
    | ((with_reducible intro h); (repeat (first | replace H := grd_k H | replace H := out_step H (by assumption))); first | replace H := cond_t h H | replace H := cond_f h H | exact absurd h (by decide) | skip)
    | ((with_reducible refine Ob.mk ?_); first | rfl | (repeat (first | exact grd_p H | replace H := grd_k H | replace H := out_step H (by assumption))))
    | (with_reducible exact True.intro)
    | constructor
    | ((conv => whnf); first
        | ((with_reducible refine Ob.mk ?_); first | rfl | (repeat (first | exact grd_p H | replace H := grd_k H | replace H := out_step H (by assumption))))
        | ((repeat (first | replace H := grd_k H | replace H := out_step H (by assumption))); refine loop_iter G19_ok (ct := [(5, some [0, 1, 5])]) (F := (fun s1 : Int => ⟨sl [(0, (.tree (.int .i64) a0)), (1, (.tree (.int .i64) a1)), (5, (.v (.int .i64 s1)))], []⟩)) (step := (fun s : Int => laws_eqIntS_loop1 _ _ s)) _ H (by kernel_rfl) (sub_auto ?_) ?_; rotate_left; (intro s1 r v hr H); rotate_right)
        | ((repeat (first | replace H := grd_k H | replace H := out_step H (by assumption))); refine again_step H (by assumption) (sub_auto ?_))
        | ((with_reducible refine fin_mk ?_); (repeat (first | replace H := grd_k H | replace H := out_step H (by assumption))); have H := Option.some.inj H; subst H))
def G20 : Env := G19.add 19 [] laws_eqIntS.S
theorem G20_ok : EnvOk Try.prog G20 := G19_ok.add ent_19 fun ar h r h1 ⟨a0, a1, y, hy, e1, e2, e3, e4⟩ => by
  subst e3 e4; exact (laws_eqIntS.spec a0 a1 y hy).le e1 e2
attribute [local irreducible] laws_eqIntS

noncomputable def laws_eqWindState (a0 : WindState) (a1 : WindState) : Option (Bool) :=
  (cond (!decide (a0.1 = a1.1)) ((some false)) (cond (!decide (a0.2.1 = a1.2.1)) ((some false)) ((some true))))
def laws_eqWindState.res (_ : WindState) (_ : WindState) (y : Bool) : AV := (.bl y)
def laws_eqWindState.out (_ : WindState) (_ : WindState) (_ : Bool) : List (Option LB) := []
def laws_eqWindState.S (ar : List AV) (h : List (Option LB)) (r : AV) (h1 : List (Option LB)) : Prop := ∃ a0 a1 y, laws_eqWindState a0 a1 = some y ∧ leL ar [(.agg [(.v (.int .i64 a0.1)), (.v (.int .i64 a0.2.1))]), (.agg [(.v (.int .i64 a1.1)), (.v (.int .i64 a1.2.1))])] ∧ leH h [] ∧ r = laws_eqWindState.res a0 a1 y ∧ h1 = laws_eqWindState.out a0 a1 y
theorem laws_eqWindState.call {ar : List AV} {h : List (Option LB)} {a0 : WindState} {a1 : WindState} {y : Bool} (H : laws_eqWindState a0 a1 = some y) (h0 : leLk ar [(.agg [(.v (.int .i64 a0.1)), (.v (.int .i64 a0.2.1))]), (.agg [(.v (.int .i64 a1.1)), (.v (.int .i64 a1.2.1))])] (leHk h [])) : laws_eqWindState.S ar h (laws_eqWindState.res a0 a1 y) (laws_eqWindState.out a0 a1 y) := ⟨a0, a1, y, H, (args_ok h0).1, (args_ok h0).2, rfl, rfl⟩
set_option maxHeartbeats 100000000 in
set_option maxRecDepth 100000 in
theorem laws_eqWindState.spec (a0 : WindState) (a1 : WindState) (y : Bool) (H : laws_eqWindState a0 a1 = some y) : Spec Try.prog 25 [(.agg [(.v (.int .i64 a0.1)), (.v (.int .i64 a0.2.1))]), (.agg [(.v (.int .i64 a1.1)), (.v (.int .i64 a1.2.1))])] [] (laws_eqWindState.res a0 a1 y) (laws_eqWindState.out a0 a1 y) := by
  refine spec_intro G20_ok (ct := [(4, some [14])]) Try.func25 rfl (by kernel_rfl) (by kernel_rfl) rfl ?_
  repeat' first
    | ((with_reducible refine eqg ?_); exact rfl)
    | ((with_reducible refine KOb.mk ?_); kernel_rfl)
    | ((with_reducible intro h); (repeat (first | replace H := grd_k H | replace H := out_step H (by assumption))); first | replace H := cond_t h H | replace H := cond_f h H | exact absurd h (by decide) | skip)
    | ((with_reducible refine Ob.mk ?_); first | rfl | (repeat (first | exact grd_p H | replace H := grd_k H | replace H := out_step H (by assumption))))
    | (with_reducible exact True.intro)
    | constructor
    | ((conv => whnf); first
        | ((with_reducible refine Ob.mk ?_); first | rfl | (repeat (first | exact grd_p H | replace H := grd_k H | replace H := out_step H (by assumption))))
        | ((with_reducible refine fin_mk ?_); (repeat (first | replace H := grd_k H | replace H := out_step H (by assumption))); have H := Option.some.inj H; subst H))
def G21 : Env := G20.add 25 [] laws_eqWindState.S
theorem G21_ok : EnvOk Try.prog G21 := G20_ok.add ent_25 fun ar h r h1 ⟨a0, a1, y, hy, e1, e2, e3, e4⟩ => by
  subst e3 e4; exact (laws_eqWindState.spec a0 a1 y hy).le e1 e2
attribute [local irreducible] laws_eqWindState

noncomputable def laws_markIntS_loop1  (v4 : Int) (v5 : Int) (v6 : (List Int)) : Option (Lp (Int × Int × (List Int)) ((Int × (List Int)))) :=
  (cond (decide (v5 < (v6.length : Int))) (grd (0 ≤ v5 ∧ v5 < (v6.length : Int)) (some (.go ((w64 (v4 + (1 : Int))), (w64 (v5 + (1 : Int))), (v6.set v5.toNat v4))))) ((some (.out (v4, v6)))))
noncomputable def laws_markIntS (a0 : (List Int)) (a1 : Int) : Option (Int × (List Int)) :=
  ((iter (fun s => laws_markIntS_loop1 s.1 s.2.1 s.2.2) (a1, (0 : Int), a0)).bind (fun r7 => (some (r7.1, r7.2))))
def laws_markIntS.res (_ : (List Int)) (_ : Int) (y : Int × (List Int)) : AV := (.v (.int .i64 y.1))
def laws_markIntS.out (_ : (List Int)) (_ : Int) (y : Int × (List Int)) : List (Option LB) := [some (.arr 3 (.int .i64) y.2)]
def laws_markIntS.S (ar : List AV) (h : List (Option LB)) (r : AV) (h1 : List (Option LB)) : Prop := ∃ a0 a1 y, laws_markIntS a0 a1 = some y ∧ leL ar [(.own 0), (.v (.int .i64 a1))] ∧ leH h [some (.arr 3 (.int .i64) a0)] ∧ r = laws_markIntS.res a0 a1 y ∧ h1 = laws_markIntS.out a0 a1 y
theorem laws_markIntS.call {ar : List AV} {h : List (Option LB)} {a0 : (List Int)} {a1 : Int} {y : Int × (List Int)} (H : laws_markIntS a0 a1 = some y) (h0 : leLk ar [(.own 0), (.v (.int .i64 a1))] (leHk h [some (.arr 3 (.int .i64) a0)])) : laws_markIntS.S ar h (laws_markIntS.res a0 a1 y) (laws_markIntS.out a0 a1 y) := ⟨a0, a1, y, H, (args_ok h0).1, (args_ok h0).2, rfl, rfl⟩
set_option maxHeartbeats 100000000 in
set_option maxRecDepth 100000 in
theorem laws_markIntS.spec (a0 : (List Int)) (a1 : Int) (y : Int × (List Int)) (H : laws_markIntS a0 a1 = some y) : Spec Try.prog 26 [(.own 0), (.v (.int .i64 a1))] [some (.arr 3 (.int .i64) a0)] (laws_markIntS.res a0 a1 y) (laws_markIntS.out a0 a1 y) := by
  refine spec_intro G21_ok (ct := []) Try.func26 rfl (by kernel_rfl) (by kernel_rfl) rfl ?_
  repeat' first
    | ((with_reducible refine eqg ?_); exact rfl)
    | ((with_reducible refine KOb.mk ?_); kernel_rfl)
    | ((with_reducible intro h); (repeat (first | replace H := grd_k H | replace H := out_step H (by assumption))); first | replace H := cond_t h H | replace H := cond_f h H | exact absurd h (by decide) | skip)
    | ((with_reducible refine Ob.mk ?_); first | rfl | (repeat (first | exact grd_p H | replace H := grd_k H | replace H := out_step H (by assumption))))
    | (with_reducible exact True.intro)
    | constructor
    | ((conv => whnf); first
        | ((with_reducible refine Ob.mk ?_); first | rfl | (repeat (first | exact grd_p H | replace H := grd_k H | replace H := out_step H (by assumption))))
        | ((repeat (first | replace H := grd_k H | replace H := out_step H (by assumption))); refine loop_iter G21_ok (ct := []) (F := (fun s1 : Int × Int × (List Int) => ⟨sl [(0, (.own 0)), (1, (.v (.int .i64 s1.1))), (5, (.v (.int .i64 s1.2.1)))], [some (.arr 3 (.int .i64) s1.2.2)]⟩)) (step := (fun s : Int × Int × (List Int) => laws_markIntS_loop1 s.1 s.2.1 s.2.2)) _ H (by kernel_rfl) (sub_auto ?_) ?_; rotate_left; (intro s1 r v hr H); rotate_right)
        | ((repeat (first | replace H := grd_k H | replace H := out_step H (by assumption))); refine again_step H (by assumption) (sub_auto ?_))
        | ((with_reducible refine fin_mk ?_); (repeat (first | replace H := grd_k H | replace H := out_step H (by assumption))); have H := Option.some.inj H; subst H))
def G22 : Env := G21.add 26 [true] laws_markIntS.S
theorem G22_ok : EnvOk Try.prog G22 := G21_ok.add ent_26 fun ar h r h1 ⟨a0, a1, y, hy, e1, e2, e3, e4⟩ => by
  subst e3 e4; exact (laws_markIntS.spec a0 a1 y hy).le e1 e2
attribute [local irreducible] laws_markIntS

noncomputable def laws_heldIntS_loop1 (a0 : (List Int)) (v3 : Int) (v4 : Int) : Option (Lp (Int × Int) ((Unit) ⊕ (Int))) :=
  (cond (decide (v4 < (a0.length : Int))) (grd (0 ≤ v4 ∧ v4 < (a0.length : Int)) (cond (!decide ((a0.getD v4.toNat 0) = v3)) ((some (.out (Sum.inl ())))) (some (.go ((w64 (v3 + (1 : Int))), (w64 (v4 + (1 : Int)))))))) ((some (.out (Sum.inr v3)))))
noncomputable def laws_heldIntS (a0 : (List Int)) (a1 : Int) : Option (Int) :=
  ((iter (fun s => laws_heldIntS_loop1 a0 s.1 s.2) (a1, (0 : Int))).bind (Sum.elim (fun r6 => (some ((-1) : Int))) (fun r7 => (some r7))))
def laws_heldIntS.res (_ : (List Int)) (_ : Int) (y : Int) : AV := (.v (.int .i64 y))
def laws_heldIntS.out (_ : (List Int)) (_ : Int) (_ : Int) : List (Option LB) := []
def laws_heldIntS.S (ar : List AV) (h : List (Option LB)) (r : AV) (h1 : List (Option LB)) : Prop := ∃ a0 a1 y, laws_heldIntS a0 a1 = some y ∧ leL ar [(.tree (.int .i64) a0), (.v (.int .i64 a1))] ∧ leH h [] ∧ r = laws_heldIntS.res a0 a1 y ∧ h1 = laws_heldIntS.out a0 a1 y
theorem laws_heldIntS.call {ar : List AV} {h : List (Option LB)} {a0 : (List Int)} {a1 : Int} {y : Int} (H : laws_heldIntS a0 a1 = some y) (h0 : leLk ar [(.tree (.int .i64) a0), (.v (.int .i64 a1))] (leHk h [])) : laws_heldIntS.S ar h (laws_heldIntS.res a0 a1 y) (laws_heldIntS.out a0 a1 y) := ⟨a0, a1, y, H, (args_ok h0).1, (args_ok h0).2, rfl, rfl⟩
set_option maxHeartbeats 100000000 in
set_option maxRecDepth 100000 in
theorem laws_heldIntS.spec (a0 : (List Int)) (a1 : Int) (y : Int) (H : laws_heldIntS a0 a1 = some y) : Spec Try.prog 27 [(.tree (.int .i64) a0), (.v (.int .i64 a1))] [] (laws_heldIntS.res a0 a1 y) (laws_heldIntS.out a0 a1 y) := by
  refine spec_intro G22_ok (ct := [(3, some [0, 1, 5])]) Try.func27 rfl (by kernel_rfl) (by kernel_rfl) rfl ?_
  repeat' first
    | ((with_reducible refine eqg ?_); exact rfl)
    | ((with_reducible refine KOb.mk ?_); kernel_rfl)
    | ((with_reducible intro h); (repeat (first | replace H := grd_k H | replace H := out_step H (by assumption))); first | replace H := cond_t h H | replace H := cond_f h H | exact absurd h (by decide) | skip)
    | ((with_reducible refine Ob.mk ?_); first | rfl | (repeat (first | exact grd_p H | replace H := grd_k H | replace H := out_step H (by assumption))))
    | (with_reducible exact True.intro)
    | constructor
    | ((conv => whnf); first
        | ((with_reducible refine Ob.mk ?_); first | rfl | (repeat (first | exact grd_p H | replace H := grd_k H | replace H := out_step H (by assumption))))
        | ((repeat (first | replace H := grd_k H | replace H := out_step H (by assumption))); refine loop_iter G22_ok (ct := [(3, some [0, 1, 5])]) (F := (fun s1 : Int × Int => ⟨sl [(0, (.tree (.int .i64) a0)), (1, (.v (.int .i64 s1.1))), (5, (.v (.int .i64 s1.2)))], []⟩)) (step := (fun s : Int × Int => laws_heldIntS_loop1 _ s.1 s.2)) _ H (by kernel_rfl) (sub_auto ?_) ?_; rotate_left; (intro s1 r v hr H); rotate_right)
        | ((repeat (first | replace H := grd_k H | replace H := out_step H (by assumption))); refine again_step H (by assumption) (sub_auto ?_))
        | ((with_reducible refine fin_mk ?_); (repeat (first | replace H := grd_k H | replace H := out_step H (by assumption))); have H := Option.some.inj H; subst H))
def G23 : Env := G22.add 27 [] laws_heldIntS.S
theorem G23_ok : EnvOk Try.prog G23 := G22_ok.add ent_27 fun ar h r h1 ⟨a0, a1, y, hy, e1, e2, e3, e4⟩ => by
  subst e3 e4; exact (laws_heldIntS.spec a0 a1 y hy).le e1 e2
attribute [local irreducible] laws_heldIntS

noncomputable def laws_markIntS_i1_loop1   : Option (Lp (Unit) ((Unit))) :=
  (some (.out ()))
noncomputable def laws_markIntS_i1 (a1 : Int) : Option (Int) :=
  ((iter (fun s => laws_markIntS_i1_loop1) ()).bind (fun r1 => (some a1)))
def laws_markIntS_i1.res (_ : Int) (y : Int) : AV := (.v (.int .i64 y))
def laws_markIntS_i1.out (_ : Int) (_ : Int) : List (Option LB) := []
def laws_markIntS_i1.S (ar : List AV) (h : List (Option LB)) (r : AV) (h1 : List (Option LB)) : Prop := ∃ a1 y, laws_markIntS_i1 a1 = some y ∧ leL ar [(.v (.slice none 0 0)), (.v (.int .i64 a1))] ∧ leH h [] ∧ r = laws_markIntS_i1.res a1 y ∧ h1 = laws_markIntS_i1.out a1 y
theorem laws_markIntS_i1.call {ar : List AV} {h : List (Option LB)} {a1 : Int} {y : Int} (H : laws_markIntS_i1 a1 = some y) (h0 : leLk ar [(.v (.slice none 0 0)), (.v (.int .i64 a1))] (leHk h [])) : laws_markIntS_i1.S ar h (laws_markIntS_i1.res a1 y) (laws_markIntS_i1.out a1 y) := ⟨a1, y, H, (args_ok h0).1, (args_ok h0).2, rfl, rfl⟩
set_option maxHeartbeats 100000000 in
set_option maxRecDepth 100000 in
theorem laws_markIntS_i1.spec (a1 : Int) (y : Int) (H : laws_markIntS_i1 a1 = some y) : Spec Try.prog 26 [(.v (.slice none 0 0)), (.v (.int .i64 a1))] [] (laws_markIntS_i1.res a1 y) (laws_markIntS_i1.out a1 y) := by
  refine spec_intro G23_ok (ct := []) Try.func26 rfl (by kernel_rfl) (by kernel_rfl) rfl ?_
  repeat' first
    | ((with_reducible refine eqg ?_); exact rfl)
    | ((with_reducible refine KOb.mk ?_); kernel_rfl)
    | ((with_reducible intro h); (repeat (first | replace H := grd_k H | replace H := out_step H (by assumption))); first | replace H := cond_t h H | replace H := cond_f h H | exact absurd h (by decide) | skip)
    | ((with_reducible refine Ob.mk ?_); first | rfl | (repeat (first | exact grd_p H | replace H := grd_k H | replace H := out_step H (by assumption))))
    | (with_reducible exact True.intro)
    | constructor
    | ((conv => whnf); first
        | ((with_reducible refine Ob.mk ?_); first | rfl | (repeat (first | exact grd_p H | replace H := grd_k H | replace H := out_step H (by assumption))))
        | ((repeat (first | replace H := grd_k H | replace H := out_step H (by assumption))); refine loop_iter G23_ok (ct := []) (F := (fun s1 : Unit => ⟨sl [(0, (.v (.slice none 0 0))), (1, (.v (.int .i64 a1))), (5, (.v (.int .i64 (0 : Int))))], []⟩)) (step := (fun s : Unit => laws_markIntS_i1_loop1)) _ H (by kernel_rfl) (sub_auto ?_) ?_; rotate_left; (intro s1 r v hr H); rotate_right)
        | ((repeat (first | replace H := grd_k H | replace H := out_step H (by assumption))); refine again_step H (by assumption) (sub_auto ?_))
        | ((with_reducible refine fin_mk ?_); (repeat (first | replace H := grd_k H | replace H := out_step H (by assumption))); have H := Option.some.inj H; subst H))
def G24 : Env := G23.addOr 26 [true] laws_markIntS_i1.S
theorem G24_ok : EnvOk Try.prog G24 := G23_ok.addOr ent_26 fun ar h r h1 ⟨a1, y, hy, e1, e2, e3, e4⟩ => by
  subst e3 e4; exact (laws_markIntS_i1.spec a1 y hy).le e1 e2
attribute [local irreducible] laws_markIntS_i1

noncomputable def laws_FnExactRunWind (a0 : WindRule) (a1 : WindState) (a2 : (List Int)) : Option (Bool) :=
  (cond (decide ((1048576 : Int) < (a2.length : Int))) ((some true)) (((laws_toWindRule (a0.1, a0.2.1, a0.2.2.1, a0.2.2.2.1, ())).bind fun y1 => ((laws_toWindState (a1.1, a1.2.1, ())).bind fun y2 => ((laws_toIntS a2).bind fun y3 => ((spec_RunWind (y1.1, y1.2.1, y1.2.2.1, y1.2.2.2.1, ()) (y2.1, y2.2.1, ()) y3).bind fun y4 => (some ((Tg.mk : Tg 1), y4.2.2, y4.1, y4.2.1.1, y4.2.1.2.1)))))).bind fun z5 => ((laws_toIntS a2).bind fun y6 => ((laws_toWindRule (a0.1, a0.2.1, a0.2.2.1, a0.2.2.2.1, ())).bind fun y7 => ((laws_toWindState (a1.1, a1.2.1, ())).bind fun y8 => ((impl_RunWind (y7.1, y7.2.1, y7.2.2.1, y7.2.2.2.1, ()) (y8.1, y8.2.1, ()) y6).bind (Sum.elim (fun y10 => ((laws_eqIntS [] z5.2.2.1).bind fun y11 => (cond (!y11) ((some false)) ((laws_eqWindState (y10.1, y10.2.1, ()) (z5.2.2.2.1, z5.2.2.2.2, ())).bind fun y12 => (cond (!y12) ((some false)) (cond (!(false == z5.2.1)) ((some false)) ((laws_toIntS a2).bind fun y13 => ((laws_eqIntS y6 y13).bind fun y14 => (cond (!y14) ((some false)) ((laws_markIntS y6 (1 : Int)).bind fun y15 => (cond (decide (y15.1 < (0 : Int))) ((some false)) ((laws_eqIntS [] z5.2.2.1).bind fun y16 => (cond (!y16) ((some false)) ((laws_eqWindState (y10.1, y10.2.1, ()) (z5.2.2.2.1, z5.2.2.2.2, ())).bind fun y17 => (cond (!y17) ((some false)) (cond (!(false == z5.2.1)) ((some false)) ((laws_markIntS_i1 (1 : Int)).bind fun y18 => ((laws_heldIntS [] (1 : Int)).bind fun y19 => (cond (decide (y19 < (0 : Int))) ((some false)) (cond (!decide (y19 = y18)) ((some false)) (((laws_toWindRule (a0.1, a0.2.1, a0.2.2.1, a0.2.2.2.1, ())).bind fun y20 => ((laws_toWindState (a1.1, a1.2.1, ())).bind fun y21 => ((laws_toIntS a2).bind fun y22 => ((impl_RunWind (y20.1, y20.2.1, y20.2.2.1, y20.2.2.2.1, ()) (y21.1, y21.2.1, ()) y22).bind (Sum.elim (fun y24 => (some ((Tg.mk : Tg 2), z5.2.1, y18, [], false, z5.2.2.1, z5.2.2.2.1, z5.2.2.2.2, y24.1, y24.2.1))) (fun y25 => (some ((Tg.mk : Tg 2), z5.2.1, y18, y25.1, true, z5.2.2.1, z5.2.2.2.1, z5.2.2.2.2, y25.2.1, y25.2.2.1)))))))).bind fun z26 => ((laws_eqIntS z26.2.2.2.1 z26.2.2.2.2.2.1).bind fun y27 => (cond (!y27) ((some false)) ((laws_eqWindState (z26.2.2.2.2.2.2.2.2.1, z26.2.2.2.2.2.2.2.2.2, ()) (z26.2.2.2.2.2.2.1, z26.2.2.2.2.2.2.2.1, ())).bind fun y28 => (cond (!y28) ((some false)) (cond (!(z26.2.2.2.2.1 == z26.2.1)) ((some false)) ((laws_heldIntS [] (1 : Int)).bind fun y29 => (cond (decide (y29 < (0 : Int))) ((some false)) (cond (!decide (y29 = z26.2.2.1)) ((some false)) ((some true))))))))))))))))))))))))))))))) (fun y30 => ((laws_eqIntS y30.1 z5.2.2.1).bind fun y31 => (cond (!y31) ((some false)) ((laws_eqWindState (y30.2.1, y30.2.2.1, ()) (z5.2.2.2.1, z5.2.2.2.2, ())).bind fun y32 => (cond (!y32) ((some false)) (cond (!(true == z5.2.1)) ((some false)) ((laws_toIntS a2).bind fun y33 => ((laws_eqIntS y6 y33).bind fun y34 => (cond (!y34) ((some false)) ((laws_markIntS y6 (1 : Int)).bind fun y35 => (cond (decide (y35.1 < (0 : Int))) ((some false)) ((laws_eqIntS y30.1 z5.2.2.1).bind fun y36 => (cond (!y36) ((some false)) ((laws_eqWindState (y30.2.1, y30.2.2.1, ()) (z5.2.2.2.1, z5.2.2.2.2, ())).bind fun y37 => (cond (!y37) ((some false)) (cond (!(true == z5.2.1)) ((some false)) ((laws_markIntS y30.1 (1 : Int)).bind fun y38 => ((laws_heldIntS y38.2 (1 : Int)).bind fun y39 => (cond (decide (y39 < (0 : Int))) ((some false)) (cond (!decide (y39 = y38.1)) ((some false)) (((laws_toWindRule (a0.1, a0.2.1, a0.2.2.1, a0.2.2.2.1, ())).bind fun y40 => ((laws_toWindState (a1.1, a1.2.1, ())).bind fun y41 => ((laws_toIntS a2).bind fun y42 => ((impl_RunWind (y40.1, y40.2.1, y40.2.2.1, y40.2.2.2.1, ()) (y41.1, y41.2.1, ()) y42).bind (Sum.elim (fun y44 => (some ((Tg.mk : Tg 3), z5.2.1, y38.1, [], false, z5.2.2.1, z5.2.2.2.1, z5.2.2.2.2, y38.2, y44.1, y44.2.1))) (fun y45 => (some ((Tg.mk : Tg 3), z5.2.1, y38.1, y45.1, true, z5.2.2.1, z5.2.2.2.1, z5.2.2.2.2, y38.2, y45.2.1, y45.2.2.1)))))))).bind fun z46 => ((laws_eqIntS z46.2.2.2.1 z46.2.2.2.2.2.1).bind fun y47 => (cond (!y47) ((some false)) ((laws_eqWindState (z46.2.2.2.2.2.2.2.2.2.1, z46.2.2.2.2.2.2.2.2.2.2, ()) (z46.2.2.2.2.2.2.1, z46.2.2.2.2.2.2.2.1, ())).bind fun y48 => (cond (!y48) ((some false)) (cond (!(z46.2.2.2.2.1 == z46.2.1)) ((some false)) ((laws_heldIntS z46.2.2.2.2.2.2.2.2.1 (1 : Int)).bind fun y49 => (cond (decide (y49 < (0 : Int))) ((some false)) (cond (!decide (y49 = z46.2.2.1)) ((some false)) ((some true))))))))))))))))))))))))))))))))))))))
def laws_FnExactRunWind.res (_ : WindRule) (_ : WindState) (_ : (List Int)) (y : Bool) : AV := (.bl y)
def laws_FnExactRunWind.out (_ : WindRule) (_ : WindState) (_ : (List Int)) (_ : Bool) : List (Option LB) := []
def laws_FnExactRunWind.S (ar : List AV) (h : List (Option LB)) (r : AV) (h1 : List (Option LB)) : Prop := ∃ a0 a1 a2 y, laws_FnExactRunWind a0 a1 a2 = some y ∧ leL ar [(.agg [(.v (.int .i64 a0.1)), (.v (.int .i64 a0.2.1)), (.v (.int .i64 a0.2.2.1)), (.v (.int .i64 a0.2.2.2.1))]), (.agg [(.v (.int .i64 a1.1)), (.v (.int .i64 a1.2.1))]), (.tree (.int .i64) a2)] ∧ leH h [] ∧ r = laws_FnExactRunWind.res a0 a1 a2 y ∧ h1 = laws_FnExactRunWind.out a0 a1 a2 y
theorem laws_FnExactRunWind.call {ar : List AV} {h : List (Option LB)} {a0 : WindRule} {a1 : WindState} {a2 : (List Int)} {y : Bool} (H : laws_FnExactRunWind a0 a1 a2 = some y) (h0 : leLk ar [(.agg [(.v (.int .i64 a0.1)), (.v (.int .i64 a0.2.1)), (.v (.int .i64 a0.2.2.1)), (.v (.int .i64 a0.2.2.2.1))]), (.agg [(.v (.int .i64 a1.1)), (.v (.int .i64 a1.2.1))]), (.tree (.int .i64) a2)] (leHk h [])) : laws_FnExactRunWind.S ar h (laws_FnExactRunWind.res a0 a1 a2 y) (laws_FnExactRunWind.out a0 a1 a2 y) := ⟨a0, a1, a2, y, H, (args_ok h0).1, (args_ok h0).2, rfl, rfl⟩
set_option maxHeartbeats 100000000 in
set_option maxRecDepth 100000 in
theorem laws_FnExactRunWind.spec (a0 : WindRule) (a1 : WindState) (a2 : (List Int)) (y : Bool) (H : laws_FnExactRunWind a0 a1 a2 = some y) : Spec Try.prog 5 [(.agg [(.v (.int .i64 a0.1)), (.v (.int .i64 a0.2.1)), (.v (.int .i64 a0.2.2.1)), (.v (.int .i64 a0.2.2.2.1))]), (.agg [(.v (.int .i64 a1.1)), (.v (.int .i64 a1.2.1))]), (.tree (.int .i64) a2)] [] (laws_FnExactRunWind.res a0 a1 a2 y) (laws_FnExactRunWind.out a0 a1 a2 y) := by
  refine spec_intro G24_ok (ct := [(4, none), (23, none), (6, some [2, 3, 4, 7, 8, 9, 10, 11, 12, 13, 51, 52, 53, 54, 57, 58, 59, 72, 73, 74, 75, 78, 79, 80, 81, 84, 85, 86, 115, 116, 117, 118, 121, 122, 123]), (7, some [2, 3, 4, 7, 8, 9, 10, 11, 12, 13, 60, 72, 73, 74, 75, 78, 79, 80, 81, 84, 85, 86, 115, 116, 117, 118, 121, 122, 123]), (13, some [2, 3, 4, 7, 8, 9, 11, 87, 115, 116, 117, 118, 121, 122, 123]), (20, some [2, 3, 4, 7, 8, 9, 11, 15, 16, 115, 116, 117, 118, 121, 122, 123]), (24, some [11, 15, 124])]) Try.func5 rfl (by kernel_rfl) (by kernel_rfl) rfl ?_
  repeat' first
    | ((with_reducible refine eqg ?_); exact rfl)
    | ((with_reducible refine KOb.mk ?_); kernel_rfl)
    | ((with_reducible intro h); (repeat (first | replace H := grd_k H | replace H := out_step H (by assumption))); first | replace H := cond_t h H | replace H := cond_f h H | exact absurd h (by decide) | skip)
    | ((with_reducible refine Ob.mk ?_); first | rfl | (repeat (first | exact grd_p H | replace H := grd_k H | replace H := out_step H (by assumption))))
    | (with_reducible exact True.intro)
    | constructor
    | ((conv => whnf); first
        | ((with_reducible refine Ob.mk ?_); first | rfl | (repeat (first | exact grd_p H | replace H := grd_k H | replace H := out_step H (by assumption))))
        | ((with_reducible refine CallW.mk ?_); (repeat (first | replace H := grd_k H | replace H := out_step H (by assumption))); replace H := bind_some H; obtain ⟨y, hy, H⟩ := H; first | ((with_reducible have hz : laws_toWindRule _ = some y := hy); clear hz; refine Exists.intro _ (Exists.intro _ ⟨laws_toWindRule.call hy ?_, rfl, rfl, ?_⟩)) | ((with_reducible have hz : laws_toWindState _ = some y := hy); clear hz; refine Exists.intro _ (Exists.intro _ ⟨laws_toWindState.call hy ?_, rfl, rfl, ?_⟩)) | ((with_reducible have hz : laws_toIntS _ = some y := hy); clear hz; refine Exists.intro _ (Exists.intro _ ⟨laws_toIntS.call hy ?_, rfl, rfl, ?_⟩)) | ((with_reducible have hz : spec_RunWind _ _ _ = some y := hy); clear hz; refine Exists.intro _ (Exists.intro _ ⟨spec_RunWind.call hy ?_, rfl, rfl, ?_⟩)) | ((with_reducible have hz : impl_RunWind _ _ _ = some y := hy); clear hz; rcases y with y | y <;> refine Exists.intro _ (Exists.intro _ ⟨impl_RunWind.call hy ?_, rfl, rfl, ?_⟩)) | ((with_reducible have hz : laws_eqIntS _ _ = some y := hy); clear hz; refine Exists.intro _ (Exists.intro _ ⟨laws_eqIntS.call hy ?_, rfl, rfl, ?_⟩)) | ((with_reducible have hz : laws_eqWindState _ _ = some y := hy); clear hz; refine Exists.intro _ (Exists.intro _ ⟨laws_eqWindState.call hy ?_, rfl, rfl, ?_⟩)) | ((with_reducible have hz : laws_markIntS _ _ = some y := hy); clear hz; refine Exists.intro _ (Exists.intro _ ⟨Or.inr (laws_markIntS.call hy ?_), rfl, rfl, ?_⟩)) | ((with_reducible have hz : laws_markIntS_i1 _ = some y := hy); clear hz; refine Exists.intro _ (Exists.intro _ ⟨Or.inl (laws_markIntS_i1.call hy ?_), rfl, rfl, ?_⟩)) | ((with_reducible have hz : laws_heldIntS _ _ = some y := hy); clear hz; refine Exists.intro _ (Exists.intro _ ⟨laws_heldIntS.call hy ?_, rfl, rfl, ?_⟩)))
        | ((with_reducible refine cutAt (id := 4) ?_); (repeat (first | replace H := grd_k H | replace H := out_step H (by assumption))); first | (replace H := bind_some H; obtain ⟨z, hz, H⟩ := H; have hT : Tg 1 × Bool × (List Int) × Int × Int := z; clear hT; refine CutC.mk (id := 4) ⟨sl [(2, (.tree (.int .i64) a2)), (3, (.loc 0 0 0)), (4, (.loc 1 0 0)), (7, (.own 2)), (8, (.loc 3 0 0)), (9, (.bl z.2.1))], [some (.box 23 [(.v (.int .i64 a0.1)), (.v (.int .i64 a0.2.1)), (.v (.int .i64 a0.2.2.1)), (.v (.int .i64 a0.2.2.2.1))]), some (.box 35 [(.v (.int .i64 a1.1)), (.v (.int .i64 a1.2.1))]), some (.arr 3 (.int .i64) z.2.2.1), some (.box 36 [(.v (.int .i64 z.2.2.2.1)), (.v (.int .i64 z.2.2.2.2))])]⟩ ?_ ?_; (replace H := hz)))
        | ((with_reducible refine cutAt (id := 23) ?_); (repeat (first | replace H := grd_k H | replace H := out_step H (by assumption))); first | (replace H := bind_some H; obtain ⟨z, hz, H⟩ := H; have hT : Tg 2 × Bool × Int × (List Int) × Bool × (List Int) × Int × Int × Int × Int := z; clear hT; refine CutC.mk (id := 23) ⟨sl [(7, (.own 0)), (8, (.loc 1 0 0)), (9, (.bl z.2.1)), (11, (.v (.slice none 0 0))), (15, (.v (.int .i64 z.2.2.1))), (17, (.tree (.int .i64) z.2.2.2.1)), (18, (.loc 2 0 0)), (19, (.bl z.2.2.2.2.1))], [some (.arr 3 (.int .i64) z.2.2.2.2.2.1), some (.box 36 [(.v (.int .i64 z.2.2.2.2.2.2.1)), (.v (.int .i64 z.2.2.2.2.2.2.2.1))]), some (.box 36 [(.v (.int .i64 z.2.2.2.2.2.2.2.2.1)), (.v (.int .i64 z.2.2.2.2.2.2.2.2.2))])]⟩ ?_ ?_; (replace H := hz)) | (replace H := bind_some H; obtain ⟨z, hz, H⟩ := H; have hT : Tg 3 × Bool × Int × (List Int) × Bool × (List Int) × Int × Int × (List Int) × Int × Int := z; clear hT; refine CutC.mk (id := 23) ⟨sl [(7, (.own 0)), (8, (.loc 1 0 0)), (9, (.bl z.2.1)), (11, (.own 2)), (15, (.v (.int .i64 z.2.2.1))), (17, (.tree (.int .i64) z.2.2.2.1)), (18, (.loc 3 0 0)), (19, (.bl z.2.2.2.2.1))], [some (.arr 3 (.int .i64) z.2.2.2.2.2.1), some (.box 36 [(.v (.int .i64 z.2.2.2.2.2.2.1)), (.v (.int .i64 z.2.2.2.2.2.2.2.1))]), some (.arr 3 (.int .i64) z.2.2.2.2.2.2.2.2.1), some (.box 36 [(.v (.int .i64 z.2.2.2.2.2.2.2.2.2.1)), (.v (.int .i64 z.2.2.2.2.2.2.2.2.2.2))])]⟩ ?_ ?_; (replace H := hz)))
        | ((repeat (first | replace H := grd_k H | replace H := out_step H (by assumption))); have H := Option.some.inj H; subst H; with_reducible refine sub_auto ?_)
        | ((with_reducible refine fin_mk ?_); (repeat (first | replace H := grd_k H | replace H := out_step H (by assumption))); have H := Option.some.inj H; subst H))
def G25 : Env := G24.add 5 [] laws_FnExactRunWind.S
theorem G25_ok : EnvOk Try.prog G25 := G24_ok.add ent_5 fun ar h r h1 ⟨a0, a1, a2, y, hy, e1, e2, e3, e4⟩ => by
  subst e3 e4; exact (laws_FnExactRunWind.spec a0 a1 a2 y hy).le e1 e2
attribute [local irreducible] laws_FnExactRunWind

end Go.Proofs.Ytplknllbpdookaa
