/-
  Contracts, printed by a program.
-/
import Derived.Test.YtmknleaomfpmmaaC212
namespace Go.Proofs.Ytmknleaomfpmmaa
open Go.RowKit
attribute [local irreducible] Ob loopwp Sub Spec Fin Again CallW CutC KOb iter joinx outm

attribute [local irreducible] laws_szSlotS laws_szRopeway laws_toSlot laws_toSlotS laws_toRopeway laws_toRopeStep spec_l1In spec_l25Slot

noncomputable def spec_l25Good_loop1 (a0 : Ropeway) (v9 : Int) : Option (Lp (Int) ((Unit) ⊕ (Unit))) :=
  (cond (decide (v9 < (a0.2.1.length : Int))) ((spec_l25Slot (a0.1, a0.2.1, a0.2.2.1, a0.2.2.2.1, a0.2.2.2.2.1, ()) v9).bind fun y10 => (cond (!y10) ((some (.out (Sum.inl ())))) (some (.go (w64 (v9 + (1 : Int))))))) ((some (.out (Sum.inr ())))))
noncomputable def spec_l25Good (a0 : Ropeway) : Option (Bool) :=
  ((spec_l1In a0.1 (0 : Int) (3 : Int)).bind fun y1 => (cond (!y1) ((some false)) ((spec_l1In (a0.2.1.length : Int) (4 : Int) (10 : Int)).bind fun y2 => (cond (!y2) ((some false)) (grd ((2 : Int) ≠ 0) (cond (!decide ((Int.tmod (a0.2.1.length : Int) (2 : Int)) = (0 : Int))) ((some false)) ((spec_l1In a0.2.2.1 (0 : Int) (500 : Int)).bind fun y3 => (cond (!y3) ((some false)) ((spec_l1In a0.2.2.2.1 (0 : Int) (500 : Int)).bind fun y4 => (cond (!y4) ((some false)) ((spec_l1In a0.2.2.2.2.1 (0 : Int) (500 : Int)).bind fun y5 => (cond (!y5) ((some false)) ((iter (fun s => spec_l25Good_loop1 a0 s) (0 : Int)).bind (Sum.elim (fun _ => (some false)) (fun _ => (some true))))))))))))))))
def spec_l25Good.res (_ : Ropeway) (y : Bool) : AV := (.bl y)
def spec_l25Good.out (_ : Ropeway) (_ : Bool) : List (Option LB) := []
def spec_l25Good.S (ar : List AV) (h : List (Option LB)) (r : AV) (h1 : List (Option LB)) : Prop := ∃ a0 y, spec_l25Good a0 = some y ∧ leL ar [(.agg [(.v (.int .i64 a0.1)), (.tree ty_Slot a0.2.1), (.v (.int .i64 a0.2.2.1)), (.v (.int .i64 a0.2.2.2.1)), (.v (.int .i64 a0.2.2.2.2.1))])] ∧ leH h [] ∧ r = spec_l25Good.res a0 y ∧ h1 = spec_l25Good.out a0 y
theorem spec_l25Good.call {ar : List AV} {h : List (Option LB)} {a0 : Ropeway} {y : Bool} (H : spec_l25Good a0 = some y) (h0 : leLk ar [(.agg [(.v (.int .i64 a0.1)), (.tree ty_Slot a0.2.1), (.v (.int .i64 a0.2.2.1)), (.v (.int .i64 a0.2.2.2.1)), (.v (.int .i64 a0.2.2.2.2.1))])] (leHk h [])) : spec_l25Good.S ar h (spec_l25Good.res a0 y) (spec_l25Good.out a0 y) := ⟨a0, y, H, (args_ok h0).1, (args_ok h0).2, rfl, rfl⟩
set_option maxHeartbeats 100000000 in
set_option maxRecDepth 100000 in
theorem spec_l25Good.spec (a0 : Ropeway) (y : Bool) (H : spec_l25Good a0 = some y) : Spec Try.prog 144 [(.agg [(.v (.int .i64 a0.1)), (.tree ty_Slot a0.2.1), (.v (.int .i64 a0.2.2.1)), (.v (.int .i64 a0.2.2.2.1)), (.v (.int .i64 a0.2.2.2.2.1))])] [] (spec_l25Good.res a0 y) (spec_l25Good.out a0 y) := by
  refine spec_intro (G8_ok.at tok []) (ct := [(3, some [1, 3, 39])]) Try.func144 rfl (by kernel_rfl) (by kernel_rfl) rfl ?_
  repeat' first
    | ((with_reducible refine eqg ?_); exact rfl)
    | ((with_reducible refine KOb.mk ?_); kernel_rfl)
    | ((with_reducible intro h); (repeat (first | replace H := grd_k H | replace H := out_step H (by assumption))); first | replace H := cond_t h H | replace H := cond_f h H | exact absurd h (by decide) | skip)
    | ((with_reducible refine Ob.mk ?_); first | (with_reducible rfl) | (first | ((repeat (first | (with_reducible exact grd_p H) | (replace H := grd_k H) | (replace H := out_step H (by assumption)))); done) | rfl | ((repeat (first | exact grd_p H | replace H := grd_k H | replace H := out_step H (by assumption))); done) | ((repeat (first | exact grd_p H | (have hp := grd_p H; exact hp) | replace H := grd_k H | replace H := out_step H (by assumption) | (replace H := bind_some H; obtain ⟨_, _, H⟩ := H))); done) | (repeat (first | exact grd_p H | replace H := grd_k H | replace H := out_step H (by assumption)))))
    | (with_reducible exact True.intro)
    | constructor
    | ((conv => whnf); first
        | ((with_reducible refine Ob.mk ?_); first | (with_reducible rfl) | (first | ((repeat (first | (with_reducible exact grd_p H) | (replace H := grd_k H) | (replace H := out_step H (by assumption)))); done) | rfl | ((repeat (first | exact grd_p H | replace H := grd_k H | replace H := out_step H (by assumption))); done) | ((repeat (first | exact grd_p H | (have hp := grd_p H; exact hp) | replace H := grd_k H | replace H := out_step H (by assumption) | (replace H := bind_some H; obtain ⟨_, _, H⟩ := H))); done) | (repeat (first | exact grd_p H | replace H := grd_k H | replace H := out_step H (by assumption)))))
        | ((with_reducible refine CallW.mk ?_); (repeat (first | replace H := grd_k H | replace H := out_step H (by assumption))); replace H := bind_some H; obtain ⟨y, hy, H⟩ := H; first | ((with_reducible have hz : spec_l1In _ _ _ = some y := hy); clear hz; refine Exists.intro _ (Exists.intro _ ⟨spec_l1In.call hy ?_, rfl, rfl, ?_⟩)) | ((with_reducible have hz : spec_l25Slot _ _ = some y := hy); clear hz; refine Exists.intro _ (Exists.intro _ ⟨spec_l25Slot.call hy ?_, rfl, rfl, ?_⟩)))
        | ((repeat (first | replace H := grd_k H | replace H := out_step H (by assumption))); refine loop_iter (G8_ok.at tok []) (ct := [(3, some [1, 3, 39])]) (F := (fun s1 : Int => ⟨sl [(1, (.loc 0 0 0)), (3, (.v (.int .i64 (a0.2.1.length : Int)))), (4, (.v (.int .i64 s1)))], [some (.box 88 [(.v (.int .i64 a0.1)), (.tree ty_Slot a0.2.1), (.v (.int .i64 a0.2.2.1)), (.v (.int .i64 a0.2.2.2.1)), (.v (.int .i64 a0.2.2.2.2.1))])]⟩)) (step := (fun s : Int => spec_l25Good_loop1 _ s)) _ H (by kernel_rfl) (sub_auto ?_) ?_; rotate_left; (intro s1 r v hr H); rotate_right)
        | ((repeat (first | replace H := grd_k H | replace H := out_step H (by assumption))); refine again_step H (by assumption) (sub_auto ?_))
        | ((with_reducible refine fin_mk ?_); (repeat (first | replace H := grd_k H | replace H := out_step H (by assumption))); have H := Option.some.inj H; subst H))
def G9 : Env := G8.add 144 [] spec_l25Good.S
theorem G9_ok : EnvOk Try.prog G9 := G8_ok.add ent_144 fun ar h r h1 ⟨a0, y, hy, e1, e2, e3, e4⟩ => by
  subst e3 e4; exact (spec_l25Good.spec a0 y hy).le e1 e2
attribute [local irreducible] spec_l25Good

noncomputable def spec_l25Step (a0 : RopeStep) : Option (Bool) :=
  (cond (decide (a0.1 = (1 : Int))) ((spec_l1In a0.2.1 (0 : Int) (3 : Int)).bind fun y1 => (some y1)) ((cond (decide (a0.1 = (2 : Int))) ((some true)) ((some (decide (a0.1 = (4 : Int)))))).bind fun z2 => (cond z2 ((some (decide (a0.2.1 = (0 : Int))))) (cond (decide (a0.1 = (3 : Int))) ((spec_l1In a0.2.1 (1 : Int) (20 : Int)).bind fun y3 => (some y3)) ((spec_l1In a0.1 (5 : Int) (7 : Int)).bind fun y4 => (cond y4 ((spec_l1In a0.2.1 (0 : Int) (1 : Int)).bind fun y5 => (some y5)) ((some false))))))))
def spec_l25Step.res (_ : RopeStep) (y : Bool) : AV := (.bl y)
def spec_l25Step.out (_ : RopeStep) (_ : Bool) : List (Option LB) := []
def spec_l25Step.S (ar : List AV) (h : List (Option LB)) (r : AV) (h1 : List (Option LB)) : Prop := ∃ a0 y, spec_l25Step a0 = some y ∧ leL ar [(.agg [(.v (.int .i64 a0.1)), (.v (.int .i64 a0.2.1))])] ∧ leH h [] ∧ r = spec_l25Step.res a0 y ∧ h1 = spec_l25Step.out a0 y
theorem spec_l25Step.call {ar : List AV} {h : List (Option LB)} {a0 : RopeStep} {y : Bool} (H : spec_l25Step a0 = some y) (h0 : leLk ar [(.agg [(.v (.int .i64 a0.1)), (.v (.int .i64 a0.2.1))])] (leHk h [])) : spec_l25Step.S ar h (spec_l25Step.res a0 y) (spec_l25Step.out a0 y) := ⟨a0, y, H, (args_ok h0).1, (args_ok h0).2, rfl, rfl⟩
set_option maxHeartbeats 100000000 in
set_option maxRecDepth 100000 in
theorem spec_l25Step.spec (a0 : RopeStep) (y : Bool) (H : spec_l25Step a0 = some y) : Spec Try.prog 145 [(.agg [(.v (.int .i64 a0.1)), (.v (.int .i64 a0.2.1))])] [] (spec_l25Step.res a0 y) (spec_l25Step.out a0 y) := by
  refine spec_intro (G9_ok.at tok []) (ct := [(6, none)]) Try.func145 rfl (by kernel_rfl) (by kernel_rfl) rfl ?_
  repeat' first
    | ((with_reducible refine eqg ?_); exact rfl)
    | ((with_reducible refine KOb.mk ?_); kernel_rfl)
    | ((with_reducible intro h); (repeat (first | replace H := grd_k H | replace H := out_step H (by assumption))); first | replace H := cond_t h H | replace H := cond_f h H | exact absurd h (by decide) | skip)
    | ((with_reducible refine Ob.mk ?_); first | (with_reducible rfl) | (first | ((repeat (first | (with_reducible exact grd_p H) | (replace H := grd_k H) | (replace H := out_step H (by assumption)))); done) | rfl | ((repeat (first | exact grd_p H | replace H := grd_k H | replace H := out_step H (by assumption))); done) | ((repeat (first | exact grd_p H | (have hp := grd_p H; exact hp) | replace H := grd_k H | replace H := out_step H (by assumption) | (replace H := bind_some H; obtain ⟨_, _, H⟩ := H))); done) | (repeat (first | exact grd_p H | replace H := grd_k H | replace H := out_step H (by assumption)))))
    | (with_reducible exact True.intro)
    | constructor
    | ((conv => whnf); first
        | ((with_reducible refine Ob.mk ?_); first | (with_reducible rfl) | (first | ((repeat (first | (with_reducible exact grd_p H) | (replace H := grd_k H) | (replace H := out_step H (by assumption)))); done) | rfl | ((repeat (first | exact grd_p H | replace H := grd_k H | replace H := out_step H (by assumption))); done) | ((repeat (first | exact grd_p H | (have hp := grd_p H; exact hp) | replace H := grd_k H | replace H := out_step H (by assumption) | (replace H := bind_some H; obtain ⟨_, _, H⟩ := H))); done) | (repeat (first | exact grd_p H | replace H := grd_k H | replace H := out_step H (by assumption)))))
        | ((with_reducible refine CallW.mk ?_); (repeat (first | replace H := grd_k H | replace H := out_step H (by assumption))); replace H := bind_some H; obtain ⟨y, hy, H⟩ := H; first | ((with_reducible have hz : spec_l1In _ _ _ = some y := hy); clear hz; refine Exists.intro _ (Exists.intro _ ⟨spec_l1In.call hy ?_, rfl, rfl, ?_⟩)))
        | ((with_reducible refine cutAt (id := 6) ?_); (repeat (first | replace H := grd_k H | replace H := out_step H (by assumption))); first | (replace H := bind_some H; obtain ⟨z, hz, H⟩ := H; refine CutC.mk (id := 6) ⟨sl [(1, (.loc 0 0 0)), (4, (.v (.int .i64 a0.1))), (10, (.bl z))], [some (.box 89 [(.v (.int .i64 a0.1)), (.v (.int .i64 a0.2.1))])]⟩ ?_ ?_; (replace H := hz)))
        | ((repeat (first | replace H := grd_k H | replace H := out_step H (by assumption))); have H := Option.some.inj H; subst H; with_reducible refine sub_auto ?_)
        | ((with_reducible refine fin_mk ?_); (repeat (first | replace H := grd_k H | replace H := out_step H (by assumption))); have H := Option.some.inj H; subst H))
def G10 : Env := G9.add 145 [] spec_l25Step.S
theorem G10_ok : EnvOk Try.prog G10 := G9_ok.add ent_145 fun ar h r h1 ⟨a0, y, hy, e1, e2, e3, e4⟩ => by
  subst e3 e4; exact (spec_l25Step.spec a0 y hy).le e1 e2
attribute [local irreducible] spec_l25Step

noncomputable def spec_l25Own (a0 : Ropeway) : Option (Ropeway) :=
  (grd ((([] : List Slot).length + a0.2.1.length) * 24 ≤ 140737488355328 ∧ ([] : List Slot).length + a0.2.1.length ≤ 140737488355328) ((some (a0.1, (([] : List Slot) ++ a0.2.1), a0.2.2.1, a0.2.2.2.1, a0.2.2.2.2.1, ()))))
def spec_l25Own.res (_ : Ropeway) (y : Ropeway) : AV := (.agg [(.v (.int .i64 y.1)), (.own 0), (.v (.int .i64 y.2.2.1)), (.v (.int .i64 y.2.2.2.1)), (.v (.int .i64 y.2.2.2.2.1))])
def spec_l25Own.out (_ : Ropeway) (y : Ropeway) : List (Option LB) := [some (.arr 100 ty_Slot y.2.1)]
def spec_l25Own.S (ar : List AV) (h : List (Option LB)) (r : AV) (h1 : List (Option LB)) : Prop := ∃ a0 y, spec_l25Own a0 = some y ∧ leL ar [(.agg [(.v (.int .i64 a0.1)), (.tree ty_Slot a0.2.1), (.v (.int .i64 a0.2.2.1)), (.v (.int .i64 a0.2.2.2.1)), (.v (.int .i64 a0.2.2.2.2.1))])] ∧ leH h [] ∧ r = spec_l25Own.res a0 y ∧ h1 = spec_l25Own.out a0 y
theorem spec_l25Own.call {ar : List AV} {h : List (Option LB)} {a0 : Ropeway} {y : Ropeway} (H : spec_l25Own a0 = some y) (h0 : leLk ar [(.agg [(.v (.int .i64 a0.1)), (.tree ty_Slot a0.2.1), (.v (.int .i64 a0.2.2.1)), (.v (.int .i64 a0.2.2.2.1)), (.v (.int .i64 a0.2.2.2.2.1))])] (leHk h [])) : spec_l25Own.S ar h (spec_l25Own.res a0 y) (spec_l25Own.out a0 y) := ⟨a0, y, H, (args_ok h0).1, (args_ok h0).2, rfl, rfl⟩
set_option maxHeartbeats 100000000 in
set_option maxRecDepth 100000 in
theorem spec_l25Own.spec (a0 : Ropeway) (y : Ropeway) (H : spec_l25Own a0 = some y) : Spec Try.prog 153 [(.agg [(.v (.int .i64 a0.1)), (.tree ty_Slot a0.2.1), (.v (.int .i64 a0.2.2.1)), (.v (.int .i64 a0.2.2.2.1)), (.v (.int .i64 a0.2.2.2.2.1))])] [] (spec_l25Own.res a0 y) (spec_l25Own.out a0 y) := by
  refine spec_intro (G10_ok.at tok []) (ct := []) Try.func153 rfl (by kernel_rfl) (by kernel_rfl) rfl ?_
  repeat' first
    | ((with_reducible refine eqg ?_); exact rfl)
    | ((with_reducible refine KOb.mk ?_); kernel_rfl)
    | ((with_reducible intro h); (repeat (first | replace H := grd_k H | replace H := out_step H (by assumption))); first | replace H := cond_t h H | replace H := cond_f h H | exact absurd h (by decide) | skip)
    | ((with_reducible refine Ob.mk ?_); first | (with_reducible rfl) | (first | ((repeat (first | (with_reducible exact grd_p H) | (replace H := grd_k H) | (replace H := out_step H (by assumption)))); done) | rfl | ((repeat (first | exact grd_p H | replace H := grd_k H | replace H := out_step H (by assumption))); done) | ((repeat (first | exact grd_p H | (have hp := grd_p H; exact hp) | replace H := grd_k H | replace H := out_step H (by assumption) | (replace H := bind_some H; obtain ⟨_, _, H⟩ := H))); done) | (repeat (first | exact grd_p H | replace H := grd_k H | replace H := out_step H (by assumption)))))
    | (with_reducible exact True.intro)
    | constructor
    | ((conv => whnf); first
        | ((with_reducible refine Ob.mk ?_); first | (with_reducible rfl) | (first | ((repeat (first | (with_reducible exact grd_p H) | (replace H := grd_k H) | (replace H := out_step H (by assumption)))); done) | rfl | ((repeat (first | exact grd_p H | replace H := grd_k H | replace H := out_step H (by assumption))); done) | ((repeat (first | exact grd_p H | (have hp := grd_p H; exact hp) | replace H := grd_k H | replace H := out_step H (by assumption) | (replace H := bind_some H; obtain ⟨_, _, H⟩ := H))); done) | (repeat (first | exact grd_p H | replace H := grd_k H | replace H := out_step H (by assumption)))))
        | ((with_reducible refine fin_mk ?_); (repeat (first | replace H := grd_k H | replace H := out_step H (by assumption))); have H := Option.some.inj H; subst H))
def G11 : Env := G10.add 153 [] spec_l25Own.S
theorem G11_ok : EnvOk Try.prog G11 := G10_ok.add ent_153 fun ar h r h1 ⟨a0, y, hy, e1, e2, e3, e4⟩ => by
  subst e3 e4; exact (spec_l25Own.spec a0 y hy).le e1 e2
attribute [local irreducible] spec_l25Own

noncomputable def spec_l25Open_loop1 (a0 : Ropeway) (v3 : Int) (v4 : (List Int)) : Option (Lp (Int × (List Int)) (((List Int)))) :=
  (cond (decide (v3 < (a0.2.1.length : Int))) (grd (0 ≤ v3 ∧ v3 < (a0.2.1.length : Int)) (cond ((a0.2.1.getD v3.toNat d_Slot).2.1) (grd ((v4.length + [v3].length) * 8 ≤ 140737488355328 ∧ v4.length + [v3].length ≤ 140737488355328) (some (.go ((w64 (v3 + (1 : Int))), (v4 ++ [v3]))))) (some (.go ((w64 (v3 + (1 : Int))), v4))))) ((some (.out v4))))
noncomputable def spec_l25Open (a0 : Ropeway) : Option ((List Int)) :=
  ((iter (fun s => spec_l25Open_loop1 a0 s.1 s.2) ((0 : Int), ([] : List Int))).bind (fun r5 => (some r5)))
def spec_l25Open.res (_ : Ropeway) (_ : (List Int)) : AV := (.own 0)
def spec_l25Open.out (_ : Ropeway) (y : (List Int)) : List (Option LB) := [some (.arr 3 (.int .i64) y)]
def spec_l25Open.S (ar : List AV) (h : List (Option LB)) (r : AV) (h1 : List (Option LB)) : Prop := ∃ a0 y, spec_l25Open a0 = some y ∧ leL ar [(.agg [(.v (.int .i64 a0.1)), (.tree ty_Slot a0.2.1), (.v (.int .i64 a0.2.2.1)), (.v (.int .i64 a0.2.2.2.1)), (.v (.int .i64 a0.2.2.2.2.1))])] ∧ leH h [] ∧ r = spec_l25Open.res a0 y ∧ h1 = spec_l25Open.out a0 y
theorem spec_l25Open.call {ar : List AV} {h : List (Option LB)} {a0 : Ropeway} {y : (List Int)} (H : spec_l25Open a0 = some y) (h0 : leLk ar [(.agg [(.v (.int .i64 a0.1)), (.tree ty_Slot a0.2.1), (.v (.int .i64 a0.2.2.1)), (.v (.int .i64 a0.2.2.2.1)), (.v (.int .i64 a0.2.2.2.2.1))])] (leHk h [])) : spec_l25Open.S ar h (spec_l25Open.res a0 y) (spec_l25Open.out a0 y) := ⟨a0, y, H, (args_ok h0).1, (args_ok h0).2, rfl, rfl⟩
set_option maxHeartbeats 100000000 in
set_option maxRecDepth 100000 in
theorem spec_l25Open.spec (a0 : Ropeway) (y : (List Int)) (H : spec_l25Open a0 = some y) : Spec Try.prog 164 [(.agg [(.v (.int .i64 a0.1)), (.tree ty_Slot a0.2.1), (.v (.int .i64 a0.2.2.1)), (.v (.int .i64 a0.2.2.2.1)), (.v (.int .i64 a0.2.2.2.2.1))])] [] (spec_l25Open.res a0 y) (spec_l25Open.out a0 y) := by
  refine spec_intro (G11_ok.at tok []) (ct := [(4, some [1, 3, 4])]) Try.func164 rfl (by kernel_rfl) (by kernel_rfl) rfl ?_
  repeat' first
    | ((with_reducible refine eqg ?_); exact rfl)
    | ((with_reducible refine KOb.mk ?_); kernel_rfl)
    | ((with_reducible intro h); (repeat (first | replace H := grd_k H | replace H := out_step H (by assumption))); first | replace H := cond_t h H | replace H := cond_f h H | exact absurd h (by decide) | skip)
    | ((with_reducible refine Ob.mk ?_); first | (with_reducible rfl) | (first | ((repeat (first | (with_reducible exact grd_p H) | (replace H := grd_k H) | (replace H := out_step H (by assumption)))); done) | rfl | ((repeat (first | exact grd_p H | replace H := grd_k H | replace H := out_step H (by assumption))); done) | ((repeat (first | exact grd_p H | (have hp := grd_p H; exact hp) | replace H := grd_k H | replace H := out_step H (by assumption) | (replace H := bind_some H; obtain ⟨_, _, H⟩ := H))); done) | (repeat (first | exact grd_p H | replace H := grd_k H | replace H := out_step H (by assumption)))))
    | (with_reducible exact True.intro)
    | constructor
    | ((conv => whnf); first
        | ((with_reducible refine Ob.mk ?_); first | (with_reducible rfl) | (first | ((repeat (first | (with_reducible exact grd_p H) | (replace H := grd_k H) | (replace H := out_step H (by assumption)))); done) | rfl | ((repeat (first | exact grd_p H | replace H := grd_k H | replace H := out_step H (by assumption))); done) | ((repeat (first | exact grd_p H | (have hp := grd_p H; exact hp) | replace H := grd_k H | replace H := out_step H (by assumption) | (replace H := bind_some H; obtain ⟨_, _, H⟩ := H))); done) | (repeat (first | exact grd_p H | replace H := grd_k H | replace H := out_step H (by assumption)))))
        | ((repeat (first | replace H := grd_k H | replace H := out_step H (by assumption))); refine loop_iter (G11_ok.at tok []) (ct := [(4, some [1, 3, 4])]) (F := (fun s1 : Int × (List Int) => ⟨sl [(1, (.loc 0 0 0)), (3, (.own 1)), (4, (.v (.int .i64 s1.1)))], [some (.box 88 [(.v (.int .i64 a0.1)), (.tree ty_Slot a0.2.1), (.v (.int .i64 a0.2.2.1)), (.v (.int .i64 a0.2.2.2.1)), (.v (.int .i64 a0.2.2.2.2.1))]), some (.arr 3 (.int .i64) s1.2)]⟩)) (step := (fun s : Int × (List Int) => spec_l25Open_loop1 _ s.1 s.2)) _ H (by kernel_rfl) (sub_auto ?_) ?_; rotate_left; (intro s1 r v hr H); rotate_right)
        | ((repeat (first | replace H := grd_k H | replace H := out_step H (by assumption))); refine again_step H (by assumption) (sub_auto ?_))
        | ((with_reducible refine fin_mk ?_); (repeat (first | replace H := grd_k H | replace H := out_step H (by assumption))); have H := Option.some.inj H; subst H))
def G12 : Env := G11.add 164 [] spec_l25Open.S
theorem G12_ok : EnvOk Try.prog G12 := G11_ok.add ent_164 fun ar h r h1 ⟨a0, y, hy, e1, e2, e3, e4⟩ => by
  subst e3 e4; exact (spec_l25Open.spec a0 y hy).le e1 e2
attribute [local irreducible] spec_l25Open

end Go.Proofs.Ytmknleaomfpmmaa
