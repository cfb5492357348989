/-
  Contracts, printed by a program.
-/
import Derived.Test.YtmknleaomfpmmaaC211
namespace Go.Proofs.Ytmknleaomfpmmaa
open Go.RowKit
attribute [local irreducible] Ob loopwp Sub Spec Fin Again CallW CutC KOb iter joinx outm

attribute [local irreducible] laws_szSlotS laws_szRopeway laws_toSlot laws_toSlotS

noncomputable def laws_toRopeway (a0 : Ropeway) : Option (Ropeway) :=
  ((laws_toSlotS a0.2.1).bind fun y1 => (some (a0.1, y1, a0.2.2.1, a0.2.2.2.1, a0.2.2.2.2.1, ())))
def laws_toRopeway.res (_ : Ropeway) (y : Ropeway) : AV := (.agg [(.v (.int .i64 y.1)), (.own 0), (.v (.int .i64 y.2.2.1)), (.v (.int .i64 y.2.2.2.1)), (.v (.int .i64 y.2.2.2.2.1))])
def laws_toRopeway.out (_ : Ropeway) (y : Ropeway) : List (Option LB) := [some (.arr 100 ty_Slot y.2.1)]
def laws_toRopeway.S (ar : List AV) (h : List (Option LB)) (r : AV) (h1 : List (Option LB)) : Prop := ∃ a0 y, laws_toRopeway a0 = some y ∧ leL ar [(.agg [(.v (.int .i64 a0.1)), (.tree ty_Slot a0.2.1), (.v (.int .i64 a0.2.2.1)), (.v (.int .i64 a0.2.2.2.1)), (.v (.int .i64 a0.2.2.2.2.1))])] ∧ leH h [] ∧ r = laws_toRopeway.res a0 y ∧ h1 = laws_toRopeway.out a0 y
theorem laws_toRopeway.call {ar : List AV} {h : List (Option LB)} {a0 : Ropeway} {y : Ropeway} (H : laws_toRopeway a0 = some y) (h0 : leLk ar [(.agg [(.v (.int .i64 a0.1)), (.tree ty_Slot a0.2.1), (.v (.int .i64 a0.2.2.1)), (.v (.int .i64 a0.2.2.2.1)), (.v (.int .i64 a0.2.2.2.2.1))])] (leHk h [])) : laws_toRopeway.S ar h (laws_toRopeway.res a0 y) (laws_toRopeway.out a0 y) := ⟨a0, y, H, (args_ok h0).1, (args_ok h0).2, rfl, rfl⟩
set_option maxHeartbeats 100000000 in
set_option maxRecDepth 100000 in
theorem laws_toRopeway.spec (a0 : Ropeway) (y : Ropeway) (H : laws_toRopeway a0 = some y) : Spec Try.prog 78 [(.agg [(.v (.int .i64 a0.1)), (.tree ty_Slot a0.2.1), (.v (.int .i64 a0.2.2.1)), (.v (.int .i64 a0.2.2.2.1)), (.v (.int .i64 a0.2.2.2.2.1))])] [] (laws_toRopeway.res a0 y) (laws_toRopeway.out a0 y) := by
  refine spec_intro (G4_ok.at tok []) (ct := [(6, some [1, 2, 3])]) Try.func78 rfl (by kernel_rfl) (by kernel_rfl) rfl ?_
  repeat' first
    | ((with_reducible refine eqg ?_); exact rfl)
    | ((with_reducible refine KOb.mk ?_); kernel_rfl)
    | ((with_reducible intro h); (repeat (first | replace H := grd_k H | replace H := out_step H (by assumption))); first | replace H := cond_t h H | replace H := cond_f h H | exact absurd h (by decide) | skip)
    | ((with_reducible refine Ob.mk ?_); first | (with_reducible rfl) | (first | ((repeat (first | (with_reducible exact grd_p H) | (replace H := grd_k H) | (replace H := out_step H (by assumption)))); done) | rfl | ((repeat (first | exact grd_p H | replace H := grd_k H | replace H := out_step H (by assumption))); done) | ((repeat (first | exact grd_p H | (have hp := grd_p H; exact hp) | replace H := grd_k H | replace H := out_step H (by assumption) | (replace H := bind_some H; obtain ⟨_, _, H⟩ := H))); done) | (repeat (first | exact grd_p H | replace H := grd_k H | replace H := out_step H (by assumption)))))
    | (with_reducible exact True.intro)
    | constructor
    | ((conv => whnf); first
        | ((with_reducible refine Ob.mk ?_); first | (with_reducible rfl) | (first | ((repeat (first | (with_reducible exact grd_p H) | (replace H := grd_k H) | (replace H := out_step H (by assumption)))); done) | rfl | ((repeat (first | exact grd_p H | replace H := grd_k H | replace H := out_step H (by assumption))); done) | ((repeat (first | exact grd_p H | (have hp := grd_p H; exact hp) | replace H := grd_k H | replace H := out_step H (by assumption) | (replace H := bind_some H; obtain ⟨_, _, H⟩ := H))); done) | (repeat (first | exact grd_p H | replace H := grd_k H | replace H := out_step H (by assumption)))))
        | ((with_reducible refine CallW.mk ?_); (repeat (first | replace H := grd_k H | replace H := out_step H (by assumption))); replace H := bind_some H; obtain ⟨y, hy, H⟩ := H; first | ((with_reducible have hz : laws_toSlotS _ = some y := hy); clear hz; refine Exists.intro _ (Exists.intro _ ⟨laws_toSlotS.call hy ?_, rfl, rfl, ?_⟩)))
        | ((with_reducible refine fin_mk ?_); (repeat (first | replace H := grd_k H | replace H := out_step H (by assumption))); have H := Option.some.inj H; subst H))
def G5 : Env := G4.add 78 [] laws_toRopeway.S
theorem G5_ok : EnvOk Try.prog G5 := G4_ok.add ent_78 fun ar h r h1 ⟨a0, y, hy, e1, e2, e3, e4⟩ => by
  subst e3 e4; exact (laws_toRopeway.spec a0 y hy).le e1 e2
attribute [local irreducible] laws_toRopeway

noncomputable def laws_toRopeStep (a0 : RopeStep) : Option (RopeStep) :=
  (some (a0.1, a0.2.1, ()))
def laws_toRopeStep.res (_ : RopeStep) (y : RopeStep) : AV := (.agg [(.v (.int .i64 y.1)), (.v (.int .i64 y.2.1))])
def laws_toRopeStep.out (_ : RopeStep) (_ : RopeStep) : List (Option LB) := []
def laws_toRopeStep.S (ar : List AV) (h : List (Option LB)) (r : AV) (h1 : List (Option LB)) : Prop := ∃ a0 y, laws_toRopeStep a0 = some y ∧ leL ar [(.agg [(.v (.int .i64 a0.1)), (.v (.int .i64 a0.2.1))])] ∧ leH h [] ∧ r = laws_toRopeStep.res a0 y ∧ h1 = laws_toRopeStep.out a0 y
theorem laws_toRopeStep.call {ar : List AV} {h : List (Option LB)} {a0 : RopeStep} {y : RopeStep} (H : laws_toRopeStep a0 = some y) (h0 : leLk ar [(.agg [(.v (.int .i64 a0.1)), (.v (.int .i64 a0.2.1))])] (leHk h [])) : laws_toRopeStep.S ar h (laws_toRopeStep.res a0 y) (laws_toRopeStep.out a0 y) := ⟨a0, y, H, (args_ok h0).1, (args_ok h0).2, rfl, rfl⟩
set_option maxHeartbeats 100000000 in
set_option maxRecDepth 100000 in
theorem laws_toRopeStep.spec (a0 : RopeStep) (y : RopeStep) (H : laws_toRopeStep a0 = some y) : Spec Try.prog 79 [(.agg [(.v (.int .i64 a0.1)), (.v (.int .i64 a0.2.1))])] [] (laws_toRopeStep.res a0 y) (laws_toRopeStep.out a0 y) := by
  refine spec_intro (G5_ok.at tok []) (ct := []) Try.func79 rfl (by kernel_rfl) (by kernel_rfl) rfl ?_
  repeat' first
    | ((with_reducible refine eqg ?_); exact rfl)
    | ((with_reducible refine KOb.mk ?_); kernel_rfl)
    | ((with_reducible intro h); (repeat (first | replace H := grd_k H | replace H := out_step H (by assumption))); first | replace H := cond_t h H | replace H := cond_f h H | exact absurd h (by decide) | skip)
    | ((with_reducible refine Ob.mk ?_); first | (with_reducible rfl) | (first | ((repeat (first | (with_reducible exact grd_p H) | (replace H := grd_k H) | (replace H := out_step H (by assumption)))); done) | rfl | ((repeat (first | exact grd_p H | replace H := grd_k H | replace H := out_step H (by assumption))); done) | ((repeat (first | exact grd_p H | (have hp := grd_p H; exact hp) | replace H := grd_k H | replace H := out_step H (by assumption) | (replace H := bind_some H; obtain ⟨_, _, H⟩ := H))); done) | (repeat (first | exact grd_p H | replace H := grd_k H | replace H := out_step H (by assumption)))))
    | (with_reducible exact True.intro)
    | constructor
    | ((conv => whnf); first
        | ((with_reducible refine Ob.mk ?_); first | (with_reducible rfl) | (first | ((repeat (first | (with_reducible exact grd_p H) | (replace H := grd_k H) | (replace H := out_step H (by assumption)))); done) | rfl | ((repeat (first | exact grd_p H | replace H := grd_k H | replace H := out_step H (by assumption))); done) | ((repeat (first | exact grd_p H | (have hp := grd_p H; exact hp) | replace H := grd_k H | replace H := out_step H (by assumption) | (replace H := bind_some H; obtain ⟨_, _, H⟩ := H))); done) | (repeat (first | exact grd_p H | replace H := grd_k H | replace H := out_step H (by assumption)))))
        | ((with_reducible refine fin_mk ?_); (repeat (first | replace H := grd_k H | replace H := out_step H (by assumption))); have H := Option.some.inj H; subst H))
def G6 : Env := G5.add 79 [] laws_toRopeStep.S
theorem G6_ok : EnvOk Try.prog G6 := G5_ok.add ent_79 fun ar h r h1 ⟨a0, y, hy, e1, e2, e3, e4⟩ => by
  subst e3 e4; exact (laws_toRopeStep.spec a0 y hy).le e1 e2
attribute [local irreducible] laws_toRopeStep

noncomputable def spec_l1In (a0 : Int) (a1 : Int) (a2 : Int) : Option (Bool) :=
  (cond (decide (a1 ≤ a0)) ((some (decide (a0 ≤ a2)))) ((some false)))
def spec_l1In.res (_ : Int) (_ : Int) (_ : Int) (y : Bool) : AV := (.bl y)
def spec_l1In.out (_ : Int) (_ : Int) (_ : Int) (_ : Bool) : List (Option LB) := []
def spec_l1In.S (ar : List AV) (h : List (Option LB)) (r : AV) (h1 : List (Option LB)) : Prop := ∃ a0 a1 a2 y, spec_l1In a0 a1 a2 = some y ∧ leL ar [(.v (.int .i64 a0)), (.v (.int .i64 a1)), (.v (.int .i64 a2))] ∧ leH h [] ∧ r = spec_l1In.res a0 a1 a2 y ∧ h1 = spec_l1In.out a0 a1 a2 y
theorem spec_l1In.call {ar : List AV} {h : List (Option LB)} {a0 : Int} {a1 : Int} {a2 : Int} {y : Bool} (H : spec_l1In a0 a1 a2 = some y) (h0 : leLk ar [(.v (.int .i64 a0)), (.v (.int .i64 a1)), (.v (.int .i64 a2))] (leHk h [])) : spec_l1In.S ar h (spec_l1In.res a0 a1 a2 y) (spec_l1In.out a0 a1 a2 y) := ⟨a0, a1, a2, y, H, (args_ok h0).1, (args_ok h0).2, rfl, rfl⟩
set_option maxHeartbeats 100000000 in
set_option maxRecDepth 100000 in
theorem spec_l1In.spec (a0 : Int) (a1 : Int) (a2 : Int) (y : Bool) (H : spec_l1In a0 a1 a2 = some y) : Spec Try.prog 112 [(.v (.int .i64 a0)), (.v (.int .i64 a1)), (.v (.int .i64 a2))] [] (spec_l1In.res a0 a1 a2 y) (spec_l1In.out a0 a1 a2 y) := by
  refine spec_intro (G6_ok.at tok []) (ct := []) Try.func112 rfl (by kernel_rfl) (by kernel_rfl) rfl ?_
  repeat' first
    | ((with_reducible refine eqg ?_); exact rfl)
    | ((with_reducible refine KOb.mk ?_); kernel_rfl)
    | ((with_reducible intro h); (repeat (first | replace H := grd_k H | replace H := out_step H (by assumption))); first | replace H := cond_t h H | replace H := cond_f h H | exact absurd h (by decide) | skip)
    | ((with_reducible refine Ob.mk ?_); first | (with_reducible rfl) | (first | ((repeat (first | (with_reducible exact grd_p H) | (replace H := grd_k H) | (replace H := out_step H (by assumption)))); done) | rfl | ((repeat (first | exact grd_p H | replace H := grd_k H | replace H := out_step H (by assumption))); done) | ((repeat (first | exact grd_p H | (have hp := grd_p H; exact hp) | replace H := grd_k H | replace H := out_step H (by assumption) | (replace H := bind_some H; obtain ⟨_, _, H⟩ := H))); done) | (repeat (first | exact grd_p H | replace H := grd_k H | replace H := out_step H (by assumption)))))
    | (with_reducible exact True.intro)
    | constructor
    | ((conv => whnf); first
        | ((with_reducible refine Ob.mk ?_); first | (with_reducible rfl) | (first | ((repeat (first | (with_reducible exact grd_p H) | (replace H := grd_k H) | (replace H := out_step H (by assumption)))); done) | rfl | ((repeat (first | exact grd_p H | replace H := grd_k H | replace H := out_step H (by assumption))); done) | ((repeat (first | exact grd_p H | (have hp := grd_p H; exact hp) | replace H := grd_k H | replace H := out_step H (by assumption) | (replace H := bind_some H; obtain ⟨_, _, H⟩ := H))); done) | (repeat (first | exact grd_p H | replace H := grd_k H | replace H := out_step H (by assumption)))))
        | ((with_reducible refine fin_mk ?_); (repeat (first | replace H := grd_k H | replace H := out_step H (by assumption))); have H := Option.some.inj H; subst H))
def G7 : Env := G6.add 112 [] spec_l1In.S
theorem G7_ok : EnvOk Try.prog G7 := G6_ok.add ent_112 fun ar h r h1 ⟨a0, a1, a2, y, hy, e1, e2, e3, e4⟩ => by
  subst e3 e4; exact (spec_l1In.spec a0 a1 a2 y hy).le e1 e2
attribute [local irreducible] spec_l1In

noncomputable def spec_l25Slot_loop1 (a0 : Ropeway) (a1 : Int) (v4 : Int) : Option (Lp (Int) ((Unit) ⊕ (Unit))) :=
  (cond (decide (v4 < a1)) (grd (0 ≤ v4 ∧ v4 < (a0.2.1.length : Int)) (cond (decide (((a0.2.1.getD v4.toNat d_Slot).1) = ((a0.2.1.getD a1.toNat d_Slot).1))) ((some (.out (Sum.inl ())))) (some (.go (w64 (v4 + (1 : Int))))))) ((some (.out (Sum.inr ())))))
noncomputable def spec_l25Slot (a0 : Ropeway) (a1 : Int) : Option (Bool) :=
  (grd (0 ≤ a1 ∧ a1 < (a0.2.1.length : Int)) ((spec_l1In ((a0.2.1.getD a1.toNat d_Slot).1) (0 : Int) (20 : Int)).bind fun y1 => (cond (!y1) ((some false)) ((spec_l1In ((a0.2.1.getD a1.toNat d_Slot).2.2.1) (0 : Int) (8 : Int)).bind fun y2 => (cond (!y2) ((some false)) (cond (decide (((a0.2.1.getD a1.toNat d_Slot).1) = (0 : Int))) (cond (!((a0.2.1.getD a1.toNat d_Slot).2.1)) ((some (decide (((a0.2.1.getD a1.toNat d_Slot).2.2.1) = (0 : Int))))) ((some false))) ((iter (fun s => spec_l25Slot_loop1 a0 a1 s) (0 : Int)).bind (Sum.elim (fun _ => (some false)) (fun _ => (grd ((a0.2.1.length : Int) ≠ 0) (grd (0 ≤ (Int.tmod (w64 (a1 + (1 : Int))) (a0.2.1.length : Int)) ∧ (Int.tmod (w64 (a1 + (1 : Int))) (a0.2.1.length : Int)) < (a0.2.1.length : Int)) (cond (!decide (((a0.2.1.getD ((Int.tmod (w64 (a1 + (1 : Int))) (a0.2.1.length : Int)).toNat) d_Slot).1) = (0 : Int))) ((some false)) (cond (!((a0.2.1.getD a1.toNat d_Slot).2.1)) ((some true)) (cond (decide (a1 = (0 : Int))) ((some true)) (grd ((2 : Int) ≠ 0) ((some (decide (a1 = (w64 (Int.tdiv (a0.2.1.length : Int) (2 : Int))))))))))))))))))))))
def spec_l25Slot.res (_ : Ropeway) (_ : Int) (y : Bool) : AV := (.bl y)
def spec_l25Slot.out (_ : Ropeway) (_ : Int) (_ : Bool) : List (Option LB) := []
def spec_l25Slot.S (ar : List AV) (h : List (Option LB)) (r : AV) (h1 : List (Option LB)) : Prop := ∃ a0 a1 y, spec_l25Slot a0 a1 = some y ∧ leL ar [(.agg [(.v (.int .i64 a0.1)), (.tree ty_Slot a0.2.1), (.v (.int .i64 a0.2.2.1)), (.v (.int .i64 a0.2.2.2.1)), (.v (.int .i64 a0.2.2.2.2.1))]), (.v (.int .i64 a1))] ∧ leH h [] ∧ r = spec_l25Slot.res a0 a1 y ∧ h1 = spec_l25Slot.out a0 a1 y
theorem spec_l25Slot.call {ar : List AV} {h : List (Option LB)} {a0 : Ropeway} {a1 : Int} {y : Bool} (H : spec_l25Slot a0 a1 = some y) (h0 : leLk ar [(.agg [(.v (.int .i64 a0.1)), (.tree ty_Slot a0.2.1), (.v (.int .i64 a0.2.2.1)), (.v (.int .i64 a0.2.2.2.1)), (.v (.int .i64 a0.2.2.2.2.1))]), (.v (.int .i64 a1))] (leHk h [])) : spec_l25Slot.S ar h (spec_l25Slot.res a0 a1 y) (spec_l25Slot.out a0 a1 y) := ⟨a0, a1, y, H, (args_ok h0).1, (args_ok h0).2, rfl, rfl⟩
set_option maxHeartbeats 100000000 in
set_option maxRecDepth 100000 in
theorem spec_l25Slot.spec (a0 : Ropeway) (a1 : Int) (y : Bool) (H : spec_l25Slot a0 a1 = some y) : Spec Try.prog 180 [(.agg [(.v (.int .i64 a0.1)), (.tree ty_Slot a0.2.1), (.v (.int .i64 a0.2.2.1)), (.v (.int .i64 a0.2.2.2.1)), (.v (.int .i64 a0.2.2.2.2.1))]), (.v (.int .i64 a1))] [] (spec_l25Slot.res a0 a1 y) (spec_l25Slot.out a0 a1 y) := by
  refine spec_intro (G7_ok.at tok []) (ct := [(3, some [1, 2, 5, 21, 29, 30, 31, 63, 64, 67, 68, 69, 70, 71, 72]), (7, some [1, 2, 5, 6, 63, 64, 67, 68, 69, 70, 71, 72]), (12, some [1, 2, 5, 58, 63, 64, 67, 68, 69, 70, 71, 72])]) Try.func180 rfl (by kernel_rfl) (by kernel_rfl) rfl ?_
  repeat' first
    | ((with_reducible refine eqg ?_); exact rfl)
    | ((with_reducible refine KOb.mk ?_); kernel_rfl)
    | ((with_reducible intro h); (repeat (first | replace H := grd_k H | replace H := out_step H (by assumption))); first | replace H := cond_t h H | replace H := cond_f h H | exact absurd h (by decide) | skip)
    | ((with_reducible refine Ob.mk ?_); first | (with_reducible rfl) | (first | ((repeat (first | (with_reducible exact grd_p H) | (replace H := grd_k H) | (replace H := out_step H (by assumption)))); done) | rfl | ((repeat (first | exact grd_p H | replace H := grd_k H | replace H := out_step H (by assumption))); done) | ((repeat (first | exact grd_p H | (have hp := grd_p H; exact hp) | replace H := grd_k H | replace H := out_step H (by assumption) | (replace H := bind_some H; obtain ⟨_, _, H⟩ := H))); done) | (repeat (first | exact grd_p H | replace H := grd_k H | replace H := out_step H (by assumption)))))
    | (with_reducible exact True.intro)
    | constructor
    | ((conv => whnf); first
        | ((with_reducible refine Ob.mk ?_); first | (with_reducible rfl) | (first | ((repeat (first | (with_reducible exact grd_p H) | (replace H := grd_k H) | (replace H := out_step H (by assumption)))); done) | rfl | ((repeat (first | exact grd_p H | replace H := grd_k H | replace H := out_step H (by assumption))); done) | ((repeat (first | exact grd_p H | (have hp := grd_p H; exact hp) | replace H := grd_k H | replace H := out_step H (by assumption) | (replace H := bind_some H; obtain ⟨_, _, H⟩ := H))); done) | (repeat (first | exact grd_p H | replace H := grd_k H | replace H := out_step H (by assumption)))))
        | ((with_reducible refine CallW.mk ?_); (repeat (first | replace H := grd_k H | replace H := out_step H (by assumption))); replace H := bind_some H; obtain ⟨y, hy, H⟩ := H; first | ((with_reducible have hz : spec_l1In _ _ _ = some y := hy); clear hz; refine Exists.intro _ (Exists.intro _ ⟨spec_l1In.call hy ?_, rfl, rfl, ?_⟩)))
        | ((repeat (first | replace H := grd_k H | replace H := out_step H (by assumption))); refine loop_iter (G7_ok.at tok []) (ct := [(3, some [1, 2, 5, 21, 29, 30, 31, 63, 64, 67, 68, 69, 70, 71, 72]), (7, some [1, 2, 5, 6, 63, 64, 67, 68, 69, 70, 71, 72]), (12, some [1, 2, 5, 58, 63, 64, 67, 68, 69, 70, 71, 72])]) (F := (fun s1 : Int => ⟨sl [(1, (.v (.int .i64 a1))), (2, (.loc 0 0 0)), (5, (.loc 1 0 0)), (6, (.v (.int .i64 s1)))], [some (.box 88 [(.v (.int .i64 a0.1)), (.tree ty_Slot a0.2.1), (.v (.int .i64 a0.2.2.1)), (.v (.int .i64 a0.2.2.2.1)), (.v (.int .i64 a0.2.2.2.2.1))]), some (.box 100 [(.v (.int .i64 ((a0.2.1.getD a1.toNat d_Slot).1))), (.bl ((a0.2.1.getD a1.toNat d_Slot).2.1)), (.v (.int .i64 ((a0.2.1.getD a1.toNat d_Slot).2.2.1)))])]⟩)) (step := (fun s : Int => spec_l25Slot_loop1 _ _ s)) _ H (by kernel_rfl) (sub_auto ?_) ?_; rotate_left; (intro s1 r v hr H); rotate_right)
        | ((repeat (first | replace H := grd_k H | replace H := out_step H (by assumption))); refine again_step H (by assumption) (sub_auto ?_))
        | ((with_reducible refine fin_mk ?_); (repeat (first | replace H := grd_k H | replace H := out_step H (by assumption))); have H := Option.some.inj H; subst H))
def G8 : Env := G7.add 180 [] spec_l25Slot.S
theorem G8_ok : EnvOk Try.prog G8 := G7_ok.add ent_180 fun ar h r h1 ⟨a0, a1, y, hy, e1, e2, e3, e4⟩ => by
  subst e3 e4; exact (spec_l25Slot.spec a0 a1 y hy).le e1 e2
attribute [local irreducible] spec_l25Slot

end Go.Proofs.Ytmknleaomfpmmaa
