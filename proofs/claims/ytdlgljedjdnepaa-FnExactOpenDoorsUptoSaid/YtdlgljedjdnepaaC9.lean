/-
  Contracts, printed by a program.
-/
import Derived.Test.YtdlgljedjdnepaaTy
namespace Go.Proofs.Ytdlgljedjdnepaa
open Go.RowKit
attribute [local irreducible] Ob loopwp Sub Spec Fin Again CallW CutC KOb iter joinx outm

noncomputable def laws_szSlotS (a0 : (List Slot)) (a1 : Int) : Option (Int) :=
  (cond (decide ((w64 (a1 - (a0.length : Int))) < (0 : Int))) ((some ((-1) : Int))) ((some (w64 (a1 - (a0.length : Int))))))
def laws_szSlotS.res (_ : (List Slot)) (_ : Int) (y : Int) : AV := (.v (.int .i64 y))
def laws_szSlotS.out (_ : (List Slot)) (_ : Int) (_ : Int) : List (Option LB) := []
def laws_szSlotS.S (ar : List AV) (h : List (Option LB)) (r : AV) (h1 : List (Option LB)) : Prop := ∃ a0 a1 y, laws_szSlotS a0 a1 = some y ∧ leL ar [(.tree ty_Slot a0), (.v (.int .i64 a1))] ∧ leH h [] ∧ r = laws_szSlotS.res a0 a1 y ∧ h1 = laws_szSlotS.out a0 a1 y
theorem laws_szSlotS.call {ar : List AV} {h : List (Option LB)} {a0 : (List Slot)} {a1 : Int} {y : Int} (H : laws_szSlotS a0 a1 = some y) (h0 : leLk ar [(.tree ty_Slot a0), (.v (.int .i64 a1))] (leHk h [])) : laws_szSlotS.S ar h (laws_szSlotS.res a0 a1 y) (laws_szSlotS.out a0 a1 y) := ⟨a0, a1, y, H, (args_ok h0).1, (args_ok h0).2, rfl, rfl⟩
set_option maxHeartbeats 100000000 in
set_option maxRecDepth 100000 in
theorem laws_szSlotS.spec (a0 : (List Slot)) (a1 : Int) (y : Int) (H : laws_szSlotS a0 a1 = some y) : Spec Try.prog 56 [(.tree ty_Slot a0), (.v (.int .i64 a1))] [] (laws_szSlotS.res a0 a1 y) (laws_szSlotS.out a0 a1 y) := by
  refine spec_intro G0_ok (ct := []) Try.func56 rfl (by kernel_rfl) (by kernel_rfl) rfl ?_
  repeat' first
    | ((with_reducible refine eqg ?_); exact rfl)
    | ((with_reducible refine KOb.mk ?_); kernel_rfl)
    | ((with_reducible intro h); (repeat (first | replace H := grd_k H | replace H := out_step H (by assumption))); first | replace H := cond_t h H | replace H := cond_f h H | exact absurd h (by decide) | skip)
    | ((with_reducible refine Ob.mk ?_); first | rfl | (repeat (first | exact grd_p H | replace H := grd_k H | replace H := out_step H (by assumption))))
    | (with_reducible exact True.intro)
    | constructor
    | ((conv => whnf); first
        | ((with_reducible refine Ob.mk ?_); first | rfl | (repeat (first | exact grd_p H | replace H := grd_k H | replace H := out_step H (by assumption))))
        | ((with_reducible refine fin_mk ?_); (repeat (first | replace H := grd_k H | replace H := out_step H (by assumption))); have H := Option.some.inj H; subst H))
def G1 : Env := G0.add 56 [] laws_szSlotS.S
theorem G1_ok : EnvOk Try.prog G1 := G0_ok.add ent_56 fun ar h r h1 ⟨a0, a1, y, hy, e1, e2, e3, e4⟩ => by
  subst e3 e4; exact (laws_szSlotS.spec a0 a1 y hy).le e1 e2
attribute [local irreducible] laws_szSlotS

noncomputable def laws_szRopeway (a0 : Ropeway) (a1 : Int) : Option (Int) :=
  ((laws_szSlotS a0.2.1 a1).bind fun y1 => (cond (decide (y1 < (0 : Int))) ((some ((-1) : Int))) ((some y1))))
def laws_szRopeway.res (_ : Ropeway) (_ : Int) (y : Int) : AV := (.v (.int .i64 y))
def laws_szRopeway.out (_ : Ropeway) (_ : Int) (_ : Int) : List (Option LB) := []
def laws_szRopeway.S (ar : List AV) (h : List (Option LB)) (r : AV) (h1 : List (Option LB)) : Prop := ∃ a0 a1 y, laws_szRopeway a0 a1 = some y ∧ leL ar [(.agg [(.v (.int .i64 a0.1)), (.tree ty_Slot a0.2.1), (.v (.int .i64 a0.2.2.1)), (.v (.int .i64 a0.2.2.2.1)), (.v (.int .i64 a0.2.2.2.2.1))]), (.v (.int .i64 a1))] ∧ leH h [] ∧ r = laws_szRopeway.res a0 a1 y ∧ h1 = laws_szRopeway.out a0 a1 y
theorem laws_szRopeway.call {ar : List AV} {h : List (Option LB)} {a0 : Ropeway} {a1 : Int} {y : Int} (H : laws_szRopeway a0 a1 = some y) (h0 : leLk ar [(.agg [(.v (.int .i64 a0.1)), (.tree ty_Slot a0.2.1), (.v (.int .i64 a0.2.2.1)), (.v (.int .i64 a0.2.2.2.1)), (.v (.int .i64 a0.2.2.2.2.1))]), (.v (.int .i64 a1))] (leHk h [])) : laws_szRopeway.S ar h (laws_szRopeway.res a0 a1 y) (laws_szRopeway.out a0 a1 y) := ⟨a0, a1, y, H, (args_ok h0).1, (args_ok h0).2, rfl, rfl⟩
set_option maxHeartbeats 100000000 in
set_option maxRecDepth 100000 in
theorem laws_szRopeway.spec (a0 : Ropeway) (a1 : Int) (y : Int) (H : laws_szRopeway a0 a1 = some y) : Spec Try.prog 14 [(.agg [(.v (.int .i64 a0.1)), (.tree ty_Slot a0.2.1), (.v (.int .i64 a0.2.2.1)), (.v (.int .i64 a0.2.2.2.1)), (.v (.int .i64 a0.2.2.2.2.1))]), (.v (.int .i64 a1))] [] (laws_szRopeway.res a0 a1 y) (laws_szRopeway.out a0 a1 y) := by
  refine spec_intro G1_ok (ct := []) Try.func14 rfl (by kernel_rfl) (by kernel_rfl) rfl ?_
  repeat' first
    | ((with_reducible refine eqg ?_); exact rfl)
    | ((with_reducible refine KOb.mk ?_); kernel_rfl)
    | ((with_reducible intro h); (repeat (first | replace H := grd_k H | replace H := out_step H (by assumption))); first | replace H := cond_t h H | replace H := cond_f h H | exact absurd h (by decide) | skip)
    | ((with_reducible refine Ob.mk ?_); first | rfl | (repeat (first | exact grd_p H | replace H := grd_k H | replace H := out_step H (by assumption))))
    | (with_reducible exact True.intro)
    | constructor
    | ((conv => whnf); first
        | ((with_reducible refine Ob.mk ?_); first | rfl | (repeat (first | exact grd_p H | replace H := grd_k H | replace H := out_step H (by assumption))))
        | ((with_reducible refine CallW.mk ?_); (repeat (first | replace H := grd_k H | replace H := out_step H (by assumption))); replace H := bind_some H; obtain ⟨y, hy, H⟩ := H; first | ((with_reducible have hz : laws_szSlotS _ _ = some y := hy); clear hz; refine Exists.intro _ (Exists.intro _ ⟨laws_szSlotS.call hy ?_, rfl, rfl, ?_⟩)))
        | ((with_reducible refine fin_mk ?_); (repeat (first | replace H := grd_k H | replace H := out_step H (by assumption))); have H := Option.some.inj H; subst H))
def G2 : Env := G1.add 14 [] laws_szRopeway.S
theorem G2_ok : EnvOk Try.prog G2 := G1_ok.add ent_14 fun ar h r h1 ⟨a0, a1, y, hy, e1, e2, e3, e4⟩ => by
  subst e3 e4; exact (laws_szRopeway.spec a0 a1 y hy).le e1 e2
attribute [local irreducible] laws_szRopeway

noncomputable def laws_toSlot (a0 : Slot) : Option (Slot) :=
  (some (a0.1, a0.2.1, a0.2.2.1, ()))
def laws_toSlot.res (_ : Slot) (y : Slot) : AV := (.agg [(.v (.int .i64 y.1)), (.bl y.2.1), (.v (.int .i64 y.2.2.1))])
def laws_toSlot.out (_ : Slot) (_ : Slot) : List (Option LB) := []
def laws_toSlot.S (ar : List AV) (h : List (Option LB)) (r : AV) (h1 : List (Option LB)) : Prop := ∃ a0 y, laws_toSlot a0 = some y ∧ leL ar [(.agg [(.v (.int .i64 a0.1)), (.bl a0.2.1), (.v (.int .i64 a0.2.2.1))])] ∧ leH h [] ∧ r = laws_toSlot.res a0 y ∧ h1 = laws_toSlot.out a0 y
theorem laws_toSlot.call {ar : List AV} {h : List (Option LB)} {a0 : Slot} {y : Slot} (H : laws_toSlot a0 = some y) (h0 : leLk ar [(.agg [(.v (.int .i64 a0.1)), (.bl a0.2.1), (.v (.int .i64 a0.2.2.1))])] (leHk h [])) : laws_toSlot.S ar h (laws_toSlot.res a0 y) (laws_toSlot.out a0 y) := ⟨a0, y, H, (args_ok h0).1, (args_ok h0).2, rfl, rfl⟩
set_option maxHeartbeats 100000000 in
set_option maxRecDepth 100000 in
theorem laws_toSlot.spec (a0 : Slot) (y : Slot) (H : laws_toSlot a0 = some y) : Spec Try.prog 86 [(.agg [(.v (.int .i64 a0.1)), (.bl a0.2.1), (.v (.int .i64 a0.2.2.1))])] [] (laws_toSlot.res a0 y) (laws_toSlot.out a0 y) := by
  refine spec_intro G2_ok (ct := []) Try.func86 rfl (by kernel_rfl) (by kernel_rfl) rfl ?_
  repeat' first
    | ((with_reducible refine eqg ?_); exact rfl)
    | ((with_reducible refine KOb.mk ?_); kernel_rfl)
    | ((with_reducible intro h); (repeat (first | replace H := grd_k H | replace H := out_step H (by assumption))); first | replace H := cond_t h H | replace H := cond_f h H | exact absurd h (by decide) | skip)
    | ((with_reducible refine Ob.mk ?_); first | rfl | (repeat (first | exact grd_p H | replace H := grd_k H | replace H := out_step H (by assumption))))
    | (with_reducible exact True.intro)
    | constructor
    | ((conv => whnf); first
        | ((with_reducible refine Ob.mk ?_); first | rfl | (repeat (first | exact grd_p H | replace H := grd_k H | replace H := out_step H (by assumption))))
        | ((with_reducible refine fin_mk ?_); (repeat (first | replace H := grd_k H | replace H := out_step H (by assumption))); have H := Option.some.inj H; subst H))
def G3 : Env := G2.add 86 [] laws_toSlot.S
theorem G3_ok : EnvOk Try.prog G3 := G2_ok.add ent_86 fun ar h r h1 ⟨a0, y, hy, e1, e2, e3, e4⟩ => by
  subst e3 e4; exact (laws_toSlot.spec a0 y hy).le e1 e2
attribute [local irreducible] laws_toSlot

noncomputable def laws_toSlotS_loop1 (a0 : (List Slot)) (v5 : Int) (v6 : (List Slot)) : Option (Lp (Int × (List Slot)) (((List Slot)))) :=
  (cond (decide (v5 < (a0.length : Int))) (grd (0 ≤ v5 ∧ v5 < (a0.length : Int)) ((laws_toSlot ((a0.getD v5.toNat d_Slot).1, (a0.getD v5.toNat d_Slot).2.1, (a0.getD v5.toNat d_Slot).2.2.1, ())).bind fun y7 => (grd (0 ≤ v5 ∧ v5 < (v6.length : Int)) (some (.go ((w64 (v5 + (1 : Int))), (v6.set v5.toNat (y7.1, y7.2.1, y7.2.2.1, ())))))))) ((some (.out v6))))
noncomputable def laws_toSlotS (a0 : (List Slot)) : Option ((List Slot)) :=
  (grd (0 ≤ (a0.length : Int) ∧ (a0.length : Int) ≤ (a0.length : Int) ∧ (24 : Int) * (a0.length : Int) ≤ 140737488355328 ∧ (a0.length : Int) ≤ 140737488355328) ((iter (fun s => laws_toSlotS_loop1 a0 s.1 s.2) ((0 : Int), (List.replicate (a0.length : Int).toNat ((0 : Int), false, (0 : Int), ())))).bind (fun r8 => (some r8))))
def laws_toSlotS.res (_ : (List Slot)) (_ : (List Slot)) : AV := (.own 0)
def laws_toSlotS.out (_ : (List Slot)) (y : (List Slot)) : List (Option LB) := [some (.arr 47 ty_Slot y)]
def laws_toSlotS.S (ar : List AV) (h : List (Option LB)) (r : AV) (h1 : List (Option LB)) : Prop := ∃ a0 y, laws_toSlotS a0 = some y ∧ leL ar [(.tree ty_Slot a0)] ∧ leH h [] ∧ r = laws_toSlotS.res a0 y ∧ h1 = laws_toSlotS.out a0 y
theorem laws_toSlotS.call {ar : List AV} {h : List (Option LB)} {a0 : (List Slot)} {y : (List Slot)} (H : laws_toSlotS a0 = some y) (h0 : leLk ar [(.tree ty_Slot a0)] (leHk h [])) : laws_toSlotS.S ar h (laws_toSlotS.res a0 y) (laws_toSlotS.out a0 y) := ⟨a0, y, H, (args_ok h0).1, (args_ok h0).2, rfl, rfl⟩
set_option maxHeartbeats 100000000 in
set_option maxRecDepth 100000 in
theorem laws_toSlotS.spec (a0 : (List Slot)) (y : (List Slot)) (H : laws_toSlotS a0 = some y) : Spec Try.prog 58 [(.tree ty_Slot a0)] [] (laws_toSlotS.res a0 y) (laws_toSlotS.out a0 y) := by
  refine spec_intro G3_ok (ct := []) Try.func58 rfl (by kernel_rfl) (by kernel_rfl) rfl ?_
  repeat' first
    | ((with_reducible refine eqg ?_); exact rfl)
    | ((with_reducible refine KOb.mk ?_); kernel_rfl)
    | ((with_reducible intro h); (repeat (first | replace H := grd_k H | replace H := out_step H (by assumption))); first | replace H := cond_t h H | replace H := cond_f h H | exact absurd h (by decide) | skip)
    | ((with_reducible refine Ob.mk ?_); first | rfl | (repeat (first | exact grd_p H | replace H := grd_k H | replace H := out_step H (by assumption))))
    | (with_reducible exact True.intro)
    | constructor
    | ((conv => whnf); first
        | ((with_reducible refine Ob.mk ?_); first | rfl | (repeat (first | exact grd_p H | replace H := grd_k H | replace H := out_step H (by assumption))))
        | ((with_reducible refine CallW.mk ?_); (repeat (first | replace H := grd_k H | replace H := out_step H (by assumption))); replace H := bind_some H; obtain ⟨y, hy, H⟩ := H; first | ((with_reducible have hz : laws_toSlot _ = some y := hy); clear hz; refine Exists.intro _ (Exists.intro _ ⟨laws_toSlot.call hy ?_, rfl, rfl, ?_⟩)))
        | ((repeat (first | replace H := grd_k H | replace H := out_step H (by assumption))); refine loop_iter G3_ok (ct := []) (F := (fun s1 : Int × (List Slot) => ⟨sl [(0, (.tree ty_Slot a0)), (3, (.own 0)), (4, (.v (.int .i64 s1.1)))], [some (.arr 47 ty_Slot s1.2)]⟩)) (step := (fun s : Int × (List Slot) => laws_toSlotS_loop1 _ s.1 s.2)) _ H (by kernel_rfl) (sub_auto ?_) ?_; rotate_left; (intro s1 r v hr H); rotate_right)
        | ((repeat (first | replace H := grd_k H | replace H := out_step H (by assumption))); refine again_step H (by assumption) (sub_auto ?_))
        | ((with_reducible refine fin_mk ?_); (repeat (first | replace H := grd_k H | replace H := out_step H (by assumption))); have H := Option.some.inj H; subst H))
def G4 : Env := G3.add 58 [] laws_toSlotS.S
theorem G4_ok : EnvOk Try.prog G4 := G3_ok.add ent_58 fun ar h r h1 ⟨a0, y, hy, e1, e2, e3, e4⟩ => by
  subst e3 e4; exact (laws_toSlotS.spec a0 y hy).le e1 e2
attribute [local irreducible] laws_toSlotS

noncomputable def laws_toRopeway (a0 : Ropeway) : Option (Ropeway) :=
  ((laws_toSlotS a0.2.1).bind fun y1 => (some (a0.1, y1, a0.2.2.1, a0.2.2.2.1, a0.2.2.2.2.1, ())))
def laws_toRopeway.res (_ : Ropeway) (y : Ropeway) : AV := (.agg [(.v (.int .i64 y.1)), (.own 0), (.v (.int .i64 y.2.2.1)), (.v (.int .i64 y.2.2.2.1)), (.v (.int .i64 y.2.2.2.2.1))])
def laws_toRopeway.out (_ : Ropeway) (y : Ropeway) : List (Option LB) := [some (.arr 47 ty_Slot y.2.1)]
def laws_toRopeway.S (ar : List AV) (h : List (Option LB)) (r : AV) (h1 : List (Option LB)) : Prop := ∃ a0 y, laws_toRopeway a0 = some y ∧ leL ar [(.agg [(.v (.int .i64 a0.1)), (.tree ty_Slot a0.2.1), (.v (.int .i64 a0.2.2.1)), (.v (.int .i64 a0.2.2.2.1)), (.v (.int .i64 a0.2.2.2.2.1))])] ∧ leH h [] ∧ r = laws_toRopeway.res a0 y ∧ h1 = laws_toRopeway.out a0 y
theorem laws_toRopeway.call {ar : List AV} {h : List (Option LB)} {a0 : Ropeway} {y : Ropeway} (H : laws_toRopeway a0 = some y) (h0 : leLk ar [(.agg [(.v (.int .i64 a0.1)), (.tree ty_Slot a0.2.1), (.v (.int .i64 a0.2.2.1)), (.v (.int .i64 a0.2.2.2.1)), (.v (.int .i64 a0.2.2.2.2.1))])] (leHk h [])) : laws_toRopeway.S ar h (laws_toRopeway.res a0 y) (laws_toRopeway.out a0 y) := ⟨a0, y, H, (args_ok h0).1, (args_ok h0).2, rfl, rfl⟩
set_option maxHeartbeats 100000000 in
set_option maxRecDepth 100000 in
theorem laws_toRopeway.spec (a0 : Ropeway) (y : Ropeway) (H : laws_toRopeway a0 = some y) : Spec Try.prog 16 [(.agg [(.v (.int .i64 a0.1)), (.tree ty_Slot a0.2.1), (.v (.int .i64 a0.2.2.1)), (.v (.int .i64 a0.2.2.2.1)), (.v (.int .i64 a0.2.2.2.2.1))])] [] (laws_toRopeway.res a0 y) (laws_toRopeway.out a0 y) := by
  refine spec_intro G4_ok (ct := [(6, some [1, 2, 3])]) Try.func16 rfl (by kernel_rfl) (by kernel_rfl) rfl ?_
  repeat' first
    | ((with_reducible refine eqg ?_); exact rfl)
    | ((with_reducible refine KOb.mk ?_); kernel_rfl)
    | ((with_reducible intro h); (repeat (first | replace H := grd_k H | replace H := out_step H (by assumption))); first | replace H := cond_t h H | replace H := cond_f h H | exact absurd h (by decide) | skip)
    | ((with_reducible refine Ob.mk ?_); first | rfl | (repeat (first | exact grd_p H | replace H := grd_k H | replace H := out_step H (by assumption))))
    | (with_reducible exact True.intro)
    | constructor
    | ((conv => whnf); first
        | ((with_reducible refine Ob.mk ?_); first | rfl | (repeat (first | exact grd_p H | replace H := grd_k H | replace H := out_step H (by assumption))))
        | ((with_reducible refine CallW.mk ?_); (repeat (first | replace H := grd_k H | replace H := out_step H (by assumption))); replace H := bind_some H; obtain ⟨y, hy, H⟩ := H; first | ((with_reducible have hz : laws_toSlotS _ = some y := hy); clear hz; refine Exists.intro _ (Exists.intro _ ⟨laws_toSlotS.call hy ?_, rfl, rfl, ?_⟩)))
        | ((with_reducible refine fin_mk ?_); (repeat (first | replace H := grd_k H | replace H := out_step H (by assumption))); have H := Option.some.inj H; subst H))
def G5 : Env := G4.add 16 [] laws_toRopeway.S
theorem G5_ok : EnvOk Try.prog G5 := G4_ok.add ent_16 fun ar h r h1 ⟨a0, y, hy, e1, e2, e3, e4⟩ => by
  subst e3 e4; exact (laws_toRopeway.spec a0 y hy).le e1 e2
attribute [local irreducible] laws_toRopeway

noncomputable def spec_l1In (a0 : Int) (a1 : Int) (a2 : Int) : Option (Bool) :=
  (cond (decide (a1 ≤ a0)) ((some (decide (a0 ≤ a2)))) ((some false)))
def spec_l1In.res (_ : Int) (_ : Int) (_ : Int) (y : Bool) : AV := (.bl y)
def spec_l1In.out (_ : Int) (_ : Int) (_ : Int) (_ : Bool) : List (Option LB) := []
def spec_l1In.S (ar : List AV) (h : List (Option LB)) (r : AV) (h1 : List (Option LB)) : Prop := ∃ a0 a1 a2 y, spec_l1In a0 a1 a2 = some y ∧ leL ar [(.v (.int .i64 a0)), (.v (.int .i64 a1)), (.v (.int .i64 a2))] ∧ leH h [] ∧ r = spec_l1In.res a0 a1 a2 y ∧ h1 = spec_l1In.out a0 a1 a2 y
theorem spec_l1In.call {ar : List AV} {h : List (Option LB)} {a0 : Int} {a1 : Int} {a2 : Int} {y : Bool} (H : spec_l1In a0 a1 a2 = some y) (h0 : leLk ar [(.v (.int .i64 a0)), (.v (.int .i64 a1)), (.v (.int .i64 a2))] (leHk h [])) : spec_l1In.S ar h (spec_l1In.res a0 a1 a2 y) (spec_l1In.out a0 a1 a2 y) := ⟨a0, a1, a2, y, H, (args_ok h0).1, (args_ok h0).2, rfl, rfl⟩
set_option maxHeartbeats 100000000 in
set_option maxRecDepth 100000 in
theorem spec_l1In.spec (a0 : Int) (a1 : Int) (a2 : Int) (y : Bool) (H : spec_l1In a0 a1 a2 = some y) : Spec Try.prog 76 [(.v (.int .i64 a0)), (.v (.int .i64 a1)), (.v (.int .i64 a2))] [] (spec_l1In.res a0 a1 a2 y) (spec_l1In.out a0 a1 a2 y) := by
  refine spec_intro G5_ok (ct := []) Try.func76 rfl (by kernel_rfl) (by kernel_rfl) rfl ?_
  repeat' first
    | ((with_reducible refine eqg ?_); exact rfl)
    | ((with_reducible refine KOb.mk ?_); kernel_rfl)
    | ((with_reducible intro h); (repeat (first | replace H := grd_k H | replace H := out_step H (by assumption))); first | replace H := cond_t h H | replace H := cond_f h H | exact absurd h (by decide) | skip)
    | ((with_reducible refine Ob.mk ?_); first | rfl | (repeat (first | exact grd_p H | replace H := grd_k H | replace H := out_step H (by assumption))))
    | (with_reducible exact True.intro)
    | constructor
    | ((conv => whnf); first
        | ((with_reducible refine Ob.mk ?_); first | rfl | (repeat (first | exact grd_p H | replace H := grd_k H | replace H := out_step H (by assumption))))
        | ((with_reducible refine fin_mk ?_); (repeat (first | replace H := grd_k H | replace H := out_step H (by assumption))); have H := Option.some.inj H; subst H))
def G6 : Env := G5.add 76 [] spec_l1In.S
theorem G6_ok : EnvOk Try.prog G6 := G5_ok.add ent_76 fun ar h r h1 ⟨a0, a1, a2, y, hy, e1, e2, e3, e4⟩ => by
  subst e3 e4; exact (spec_l1In.spec a0 a1 a2 y hy).le e1 e2
attribute [local irreducible] spec_l1In

noncomputable def spec_l25Slot_loop1 (a0 : Ropeway) (a1 : Int) (v4 : Int) : Option (Lp (Int) ((Unit) ⊕ (Unit))) :=
  (cond (decide (v4 < a1)) (grd (0 ≤ v4 ∧ v4 < (a0.2.1.length : Int)) (cond (decide (((a0.2.1.getD v4.toNat d_Slot).1) = ((a0.2.1.getD a1.toNat d_Slot).1))) ((some (.out (Sum.inl ())))) (some (.go (w64 (v4 + (1 : Int))))))) ((some (.out (Sum.inr ())))))
noncomputable def spec_l25Slot (a0 : Ropeway) (a1 : Int) : Option (Bool) :=
  (grd (0 ≤ a1 ∧ a1 < (a0.2.1.length : Int)) ((spec_l1In ((a0.2.1.getD a1.toNat d_Slot).1) (0 : Int) (20 : Int)).bind fun y1 => (cond (!y1) ((some false)) ((spec_l1In ((a0.2.1.getD a1.toNat d_Slot).2.2.1) (0 : Int) (8 : Int)).bind fun y2 => (cond (!y2) ((some false)) (cond (decide (((a0.2.1.getD a1.toNat d_Slot).1) = (0 : Int))) (cond (!((a0.2.1.getD a1.toNat d_Slot).2.1)) ((some (decide (((a0.2.1.getD a1.toNat d_Slot).2.2.1) = (0 : Int))))) ((some false))) ((iter (fun s => spec_l25Slot_loop1 a0 a1 s) (0 : Int)).bind (Sum.elim (fun r6 => (some false)) (fun r7 => (grd ((a0.2.1.length : Int) ≠ 0) (grd (0 ≤ (Int.tmod (w64 (a1 + (1 : Int))) (a0.2.1.length : Int)) ∧ (Int.tmod (w64 (a1 + (1 : Int))) (a0.2.1.length : Int)) < (a0.2.1.length : Int)) (cond (!decide (((a0.2.1.getD ((Int.tmod (w64 (a1 + (1 : Int))) (a0.2.1.length : Int)).toNat) d_Slot).1) = (0 : Int))) ((some false)) (cond (!((a0.2.1.getD a1.toNat d_Slot).2.1)) ((some true)) (cond (decide (a1 = (0 : Int))) ((some true)) (grd ((2 : Int) ≠ 0) ((some (decide (a1 = (w64 (Int.tdiv (a0.2.1.length : Int) (2 : Int))))))))))))))))))))))
def spec_l25Slot.res (_ : Ropeway) (_ : Int) (y : Bool) : AV := (.bl y)
def spec_l25Slot.out (_ : Ropeway) (_ : Int) (_ : Bool) : List (Option LB) := []
def spec_l25Slot.S (ar : List AV) (h : List (Option LB)) (r : AV) (h1 : List (Option LB)) : Prop := ∃ a0 a1 y, spec_l25Slot a0 a1 = some y ∧ leL ar [(.agg [(.v (.int .i64 a0.1)), (.tree ty_Slot a0.2.1), (.v (.int .i64 a0.2.2.1)), (.v (.int .i64 a0.2.2.2.1)), (.v (.int .i64 a0.2.2.2.2.1))]), (.v (.int .i64 a1))] ∧ leH h [] ∧ r = spec_l25Slot.res a0 a1 y ∧ h1 = spec_l25Slot.out a0 a1 y
theorem spec_l25Slot.call {ar : List AV} {h : List (Option LB)} {a0 : Ropeway} {a1 : Int} {y : Bool} (H : spec_l25Slot a0 a1 = some y) (h0 : leLk ar [(.agg [(.v (.int .i64 a0.1)), (.tree ty_Slot a0.2.1), (.v (.int .i64 a0.2.2.1)), (.v (.int .i64 a0.2.2.2.1)), (.v (.int .i64 a0.2.2.2.2.1))]), (.v (.int .i64 a1))] (leHk h [])) : spec_l25Slot.S ar h (spec_l25Slot.res a0 a1 y) (spec_l25Slot.out a0 a1 y) := ⟨a0, a1, y, H, (args_ok h0).1, (args_ok h0).2, rfl, rfl⟩
set_option maxHeartbeats 100000000 in
set_option maxRecDepth 100000 in
theorem spec_l25Slot.spec (a0 : Ropeway) (a1 : Int) (y : Bool) (H : spec_l25Slot a0 a1 = some y) : Spec Try.prog 85 [(.agg [(.v (.int .i64 a0.1)), (.tree ty_Slot a0.2.1), (.v (.int .i64 a0.2.2.1)), (.v (.int .i64 a0.2.2.2.1)), (.v (.int .i64 a0.2.2.2.2.1))]), (.v (.int .i64 a1))] [] (spec_l25Slot.res a0 a1 y) (spec_l25Slot.out a0 a1 y) := by
  refine spec_intro G6_ok (ct := [(3, some [1, 2, 5, 21, 29, 30, 31, 63, 64, 67, 68, 69, 70, 71, 72]), (7, some [1, 2, 5, 6, 63, 64, 67, 68, 69, 70, 71, 72]), (12, some [1, 2, 5, 58, 63, 64, 67, 68, 69, 70, 71, 72])]) Try.func85 rfl (by kernel_rfl) (by kernel_rfl) rfl ?_
  repeat' first
    | ((with_reducible refine eqg ?_); exact rfl)
    | ((with_reducible refine KOb.mk ?_); kernel_rfl)
    | ((with_reducible intro h); (repeat (first | replace H := grd_k H | replace H := out_step H (by assumption))); first | replace H := cond_t h H | replace H := cond_f h H | exact absurd h (by decide) | skip)
    | ((with_reducible refine Ob.mk ?_); first | rfl | (repeat (first | exact grd_p H | replace H := grd_k H | replace H := out_step H (by assumption))))
    | (with_reducible exact True.intro)
    | constructor
    | ((conv => whnf); first
        | ((with_reducible refine Ob.mk ?_); first | rfl | (repeat (first | exact grd_p H | replace H := grd_k H | replace H := out_step H (by assumption))))
        | ((with_reducible refine CallW.mk ?_); (repeat (first | replace H := grd_k H | replace H := out_step H (by assumption))); replace H := bind_some H; obtain ⟨y, hy, H⟩ := H; first | ((with_reducible have hz : spec_l1In _ _ _ = some y := hy); clear hz; refine Exists.intro _ (Exists.intro _ ⟨spec_l1In.call hy ?_, rfl, rfl, ?_⟩)))
        | ((repeat (first | replace H := grd_k H | replace H := out_step H (by assumption))); refine loop_iter G6_ok (ct := [(3, some [1, 2, 5, 21, 29, 30, 31, 63, 64, 67, 68, 69, 70, 71, 72]), (7, some [1, 2, 5, 6, 63, 64, 67, 68, 69, 70, 71, 72]), (12, some [1, 2, 5, 58, 63, 64, 67, 68, 69, 70, 71, 72])]) (F := (fun s1 : Int => ⟨sl [(1, (.v (.int .i64 a1))), (2, (.loc 0 0 0)), (5, (.loc 1 0 0)), (6, (.v (.int .i64 s1)))], [some (.box 29 [(.v (.int .i64 a0.1)), (.tree ty_Slot a0.2.1), (.v (.int .i64 a0.2.2.1)), (.v (.int .i64 a0.2.2.2.1)), (.v (.int .i64 a0.2.2.2.2.1))]), some (.box 47 [(.v (.int .i64 ((a0.2.1.getD a1.toNat d_Slot).1))), (.bl ((a0.2.1.getD a1.toNat d_Slot).2.1)), (.v (.int .i64 ((a0.2.1.getD a1.toNat d_Slot).2.2.1)))])]⟩)) (step := (fun s : Int => spec_l25Slot_loop1 _ _ s)) _ H (by kernel_rfl) (sub_auto ?_) ?_; rotate_left; (intro s1 r v hr H); rotate_right)
        | ((repeat (first | replace H := grd_k H | replace H := out_step H (by assumption))); refine again_step H (by assumption) (sub_auto ?_))
        | ((with_reducible refine fin_mk ?_); (repeat (first | replace H := grd_k H | replace H := out_step H (by assumption))); have H := Option.some.inj H; subst H))
def G7 : Env := G6.add 85 [] spec_l25Slot.S
theorem G7_ok : EnvOk Try.prog G7 := G6_ok.add ent_85 fun ar h r h1 ⟨a0, a1, y, hy, e1, e2, e3, e4⟩ => by
  subst e3 e4; exact (spec_l25Slot.spec a0 a1 y hy).le e1 e2
attribute [local irreducible] spec_l25Slot

noncomputable def spec_l25Good_loop1 (a0 : Ropeway) (v9 : Int) : Option (Lp (Int) ((Unit) ⊕ (Unit))) :=
  (cond (decide (v9 < (a0.2.1.length : Int))) ((spec_l25Slot (a0.1, a0.2.1, a0.2.2.1, a0.2.2.2.1, a0.2.2.2.2.1, ()) v9).bind fun y10 => (cond (!y10) ((some (.out (Sum.inl ())))) (some (.go (w64 (v9 + (1 : Int))))))) ((some (.out (Sum.inr ())))))
noncomputable def spec_l25Good (a0 : Ropeway) : Option (Bool) :=
  ((spec_l1In a0.1 (0 : Int) (3 : Int)).bind fun y1 => (cond (!y1) ((some false)) ((spec_l1In (a0.2.1.length : Int) (4 : Int) (10 : Int)).bind fun y2 => (cond (!y2) ((some false)) (grd ((2 : Int) ≠ 0) (cond (!decide ((Int.tmod (a0.2.1.length : Int) (2 : Int)) = (0 : Int))) ((some false)) ((spec_l1In a0.2.2.1 (0 : Int) (500 : Int)).bind fun y3 => (cond (!y3) ((some false)) ((spec_l1In a0.2.2.2.1 (0 : Int) (500 : Int)).bind fun y4 => (cond (!y4) ((some false)) ((spec_l1In a0.2.2.2.2.1 (0 : Int) (500 : Int)).bind fun y5 => (cond (!y5) ((some false)) ((iter (fun s => spec_l25Good_loop1 a0 s) (0 : Int)).bind (Sum.elim (fun r12 => (some false)) (fun r13 => (some true))))))))))))))))
def spec_l25Good.res (_ : Ropeway) (y : Bool) : AV := (.bl y)
def spec_l25Good.out (_ : Ropeway) (_ : Bool) : List (Option LB) := []
def spec_l25Good.S (ar : List AV) (h : List (Option LB)) (r : AV) (h1 : List (Option LB)) : Prop := ∃ a0 y, spec_l25Good a0 = some y ∧ leL ar [(.agg [(.v (.int .i64 a0.1)), (.tree ty_Slot a0.2.1), (.v (.int .i64 a0.2.2.1)), (.v (.int .i64 a0.2.2.2.1)), (.v (.int .i64 a0.2.2.2.2.1))])] ∧ leH h [] ∧ r = spec_l25Good.res a0 y ∧ h1 = spec_l25Good.out a0 y
theorem spec_l25Good.call {ar : List AV} {h : List (Option LB)} {a0 : Ropeway} {y : Bool} (H : spec_l25Good a0 = some y) (h0 : leLk ar [(.agg [(.v (.int .i64 a0.1)), (.tree ty_Slot a0.2.1), (.v (.int .i64 a0.2.2.1)), (.v (.int .i64 a0.2.2.2.1)), (.v (.int .i64 a0.2.2.2.2.1))])] (leHk h [])) : spec_l25Good.S ar h (spec_l25Good.res a0 y) (spec_l25Good.out a0 y) := ⟨a0, y, H, (args_ok h0).1, (args_ok h0).2, rfl, rfl⟩
set_option maxHeartbeats 100000000 in
set_option maxRecDepth 100000 in
theorem spec_l25Good.spec (a0 : Ropeway) (y : Bool) (H : spec_l25Good a0 = some y) : Spec Try.prog 57 [(.agg [(.v (.int .i64 a0.1)), (.tree ty_Slot a0.2.1), (.v (.int .i64 a0.2.2.1)), (.v (.int .i64 a0.2.2.2.1)), (.v (.int .i64 a0.2.2.2.2.1))])] [] (spec_l25Good.res a0 y) (spec_l25Good.out a0 y) := by
  refine spec_intro G7_ok (ct := [(3, some [1, 3, 39])]) Try.func57 rfl (by kernel_rfl) (by kernel_rfl) rfl ?_
  repeat' first
    | ((with_reducible refine eqg ?_); exact rfl)
    | ((with_reducible refine KOb.mk ?_); kernel_rfl)
    | ((with_reducible intro h); (repeat (first | replace H := grd_k H | replace H := out_step H (by assumption))); first | replace H := cond_t h H | replace H := cond_f h H | exact absurd h (by decide) | skip)
    | ((with_reducible refine Ob.mk ?_); first | rfl | (repeat (first | exact grd_p H | replace H := grd_k H | replace H := out_step H (by assumption))))
    | (with_reducible exact True.intro)
    | constructor
    | ((conv => whnf); first
        | ((with_reducible refine Ob.mk ?_); first | rfl | (repeat (first | exact grd_p H | replace H := grd_k H | replace H := out_step H (by assumption))))
        | ((with_reducible refine CallW.mk ?_); (repeat (first | replace H := grd_k H | replace H := out_step H (by assumption))); replace H := bind_some H; obtain ⟨y, hy, H⟩ := H; first | ((with_reducible have hz : spec_l1In _ _ _ = some y := hy); clear hz; refine Exists.intro _ (Exists.intro _ ⟨spec_l1In.call hy ?_, rfl, rfl, ?_⟩)) | ((with_reducible have hz : spec_l25Slot _ _ = some y := hy); clear hz; refine Exists.intro _ (Exists.intro _ ⟨spec_l25Slot.call hy ?_, rfl, rfl, ?_⟩)))
        | ((repeat (first | replace H := grd_k H | replace H := out_step H (by assumption))); refine loop_iter G7_ok (ct := [(3, some [1, 3, 39])]) (F := (fun s1 : Int => ⟨sl [(1, (.loc 0 0 0)), (3, (.v (.int .i64 (a0.2.1.length : Int)))), (4, (.v (.int .i64 s1)))], [some (.box 29 [(.v (.int .i64 a0.1)), (.tree ty_Slot a0.2.1), (.v (.int .i64 a0.2.2.1)), (.v (.int .i64 a0.2.2.2.1)), (.v (.int .i64 a0.2.2.2.2.1))])]⟩)) (step := (fun s : Int => spec_l25Good_loop1 _ s)) _ H (by kernel_rfl) (sub_auto ?_) ?_; rotate_left; (intro s1 r v hr H); rotate_right)
        | ((repeat (first | replace H := grd_k H | replace H := out_step H (by assumption))); refine again_step H (by assumption) (sub_auto ?_))
        | ((with_reducible refine fin_mk ?_); (repeat (first | replace H := grd_k H | replace H := out_step H (by assumption))); have H := Option.some.inj H; subst H))
def G8 : Env := G7.add 57 [] spec_l25Good.S
theorem G8_ok : EnvOk Try.prog G8 := G7_ok.add ent_57 fun ar h r h1 ⟨a0, y, hy, e1, e2, e3, e4⟩ => by
  subst e3 e4; exact (spec_l25Good.spec a0 y hy).le e1 e2
attribute [local irreducible] spec_l25Good

noncomputable def spec_l25Open_loop1 (a0 : Ropeway) (v3 : Int) (v4 : (List Int)) : Option (Lp (Int × (List Int)) (((List Int)))) :=
  (cond (decide (v3 < (a0.2.1.length : Int))) (grd (0 ≤ v3 ∧ v3 < (a0.2.1.length : Int)) (cond ((a0.2.1.getD v3.toNat d_Slot).2.1) (grd ((v4.length + [v3].length) * 8 ≤ 140737488355328 ∧ v4.length + [v3].length ≤ 140737488355328) (some (.go ((w64 (v3 + (1 : Int))), (v4 ++ [v3]))))) (some (.go ((w64 (v3 + (1 : Int))), v4))))) ((some (.out v4))))
noncomputable def spec_l25Open (a0 : Ropeway) : Option ((List Int)) :=
  ((iter (fun s => spec_l25Open_loop1 a0 s.1 s.2) ((0 : Int), ([] : List Int))).bind (fun r5 => (some r5)))
def spec_l25Open.res (_ : Ropeway) (_ : (List Int)) : AV := (.own 0)
def spec_l25Open.out (_ : Ropeway) (y : (List Int)) : List (Option LB) := [some (.arr 3 (.int .i64) y)]
def spec_l25Open.S (ar : List AV) (h : List (Option LB)) (r : AV) (h1 : List (Option LB)) : Prop := ∃ a0 y, spec_l25Open a0 = some y ∧ leL ar [(.agg [(.v (.int .i64 a0.1)), (.tree ty_Slot a0.2.1), (.v (.int .i64 a0.2.2.1)), (.v (.int .i64 a0.2.2.2.1)), (.v (.int .i64 a0.2.2.2.2.1))])] ∧ leH h [] ∧ r = spec_l25Open.res a0 y ∧ h1 = spec_l25Open.out a0 y
theorem spec_l25Open.call {ar : List AV} {h : List (Option LB)} {a0 : Ropeway} {y : (List Int)} (H : spec_l25Open a0 = some y) (h0 : leLk ar [(.agg [(.v (.int .i64 a0.1)), (.tree ty_Slot a0.2.1), (.v (.int .i64 a0.2.2.1)), (.v (.int .i64 a0.2.2.2.1)), (.v (.int .i64 a0.2.2.2.2.1))])] (leHk h [])) : spec_l25Open.S ar h (spec_l25Open.res a0 y) (spec_l25Open.out a0 y) := ⟨a0, y, H, (args_ok h0).1, (args_ok h0).2, rfl, rfl⟩
set_option maxHeartbeats 100000000 in
set_option maxRecDepth 100000 in
theorem spec_l25Open.spec (a0 : Ropeway) (y : (List Int)) (H : spec_l25Open a0 = some y) : Spec Try.prog 82 [(.agg [(.v (.int .i64 a0.1)), (.tree ty_Slot a0.2.1), (.v (.int .i64 a0.2.2.1)), (.v (.int .i64 a0.2.2.2.1)), (.v (.int .i64 a0.2.2.2.2.1))])] [] (spec_l25Open.res a0 y) (spec_l25Open.out a0 y) := by
  refine spec_intro G8_ok (ct := [(4, some [1, 3, 4])]) Try.func82 rfl (by kernel_rfl) (by kernel_rfl) rfl ?_
  repeat' first
    | ((with_reducible refine eqg ?_); exact rfl)
    | ((with_reducible refine KOb.mk ?_); kernel_rfl)
    | ((with_reducible intro h); (repeat (first | replace H := grd_k H | replace H := out_step H (by assumption))); first | replace H := cond_t h H | replace H := cond_f h H | exact absurd h (by decide) | skip)
    | ((with_reducible refine Ob.mk ?_); first | rfl | (repeat (first | exact grd_p H | replace H := grd_k H | replace H := out_step H (by assumption))))
    | (with_reducible exact True.intro)
    | constructor
    | ((conv => whnf); first
        | ((with_reducible refine Ob.mk ?_); first | rfl | (repeat (first | exact grd_p H | replace H := grd_k H | replace H := out_step H (by assumption))))
        | ((repeat (first | replace H := grd_k H | replace H := out_step H (by assumption))); refine loop_iter G8_ok (ct := [(4, some [1, 3, 4])]) (F := (fun s1 : Int × (List Int) => ⟨sl [(1, (.loc 0 0 0)), (3, (.own 1)), (4, (.v (.int .i64 s1.1)))], [some (.box 29 [(.v (.int .i64 a0.1)), (.tree ty_Slot a0.2.1), (.v (.int .i64 a0.2.2.1)), (.v (.int .i64 a0.2.2.2.1)), (.v (.int .i64 a0.2.2.2.2.1))]), some (.arr 3 (.int .i64) s1.2)]⟩)) (step := (fun s : Int × (List Int) => spec_l25Open_loop1 _ s.1 s.2)) _ H (by kernel_rfl) (sub_auto ?_) ?_; rotate_left; (intro s1 r v hr H); rotate_right)
        | ((repeat (first | replace H := grd_k H | replace H := out_step H (by assumption))); refine again_step H (by assumption) (sub_auto ?_))
        | ((with_reducible refine fin_mk ?_); (repeat (first | replace H := grd_k H | replace H := out_step H (by assumption))); have H := Option.some.inj H; subst H))
def G9 : Env := G8.add 82 [] spec_l25Open.S
theorem G9_ok : EnvOk Try.prog G9 := G8_ok.add ent_82 fun ar h r h1 ⟨a0, y, hy, e1, e2, e3, e4⟩ => by
  subst e3 e4; exact (spec_l25Open.spec a0 y hy).le e1 e2
attribute [local irreducible] spec_l25Open

noncomputable def spec_OpenDoors (a0 : Ropeway) : Option ((List Int) × Bool) :=
  ((spec_l25Good (a0.1, a0.2.1, a0.2.2.1, a0.2.2.2.1, a0.2.2.2.2.1, ())).bind fun y1 => (cond (!y1) ((some (([] : List Int), false))) ((spec_l25Open (a0.1, a0.2.1, a0.2.2.1, a0.2.2.2.1, a0.2.2.2.2.1, ())).bind fun y2 => (some (y2, true)))))
def spec_OpenDoors.res (_ : Ropeway) (y : (List Int) × Bool) : AV := (.tup [(.own 0), (.bl y.2)])
def spec_OpenDoors.out (_ : Ropeway) (y : (List Int) × Bool) : List (Option LB) := [some (.arr 3 (.int .i64) y.1)]
def spec_OpenDoors.S (ar : List AV) (h : List (Option LB)) (r : AV) (h1 : List (Option LB)) : Prop := ∃ a0 y, spec_OpenDoors a0 = some y ∧ leL ar [(.agg [(.v (.int .i64 a0.1)), (.tree ty_Slot a0.2.1), (.v (.int .i64 a0.2.2.1)), (.v (.int .i64 a0.2.2.2.1)), (.v (.int .i64 a0.2.2.2.2.1))])] ∧ leH h [] ∧ r = spec_OpenDoors.res a0 y ∧ h1 = spec_OpenDoors.out a0 y
theorem spec_OpenDoors.call {ar : List AV} {h : List (Option LB)} {a0 : Ropeway} {y : (List Int) × Bool} (H : spec_OpenDoors a0 = some y) (h0 : leLk ar [(.agg [(.v (.int .i64 a0.1)), (.tree ty_Slot a0.2.1), (.v (.int .i64 a0.2.2.1)), (.v (.int .i64 a0.2.2.2.1)), (.v (.int .i64 a0.2.2.2.2.1))])] (leHk h [])) : spec_OpenDoors.S ar h (spec_OpenDoors.res a0 y) (spec_OpenDoors.out a0 y) := ⟨a0, y, H, (args_ok h0).1, (args_ok h0).2, rfl, rfl⟩
set_option maxHeartbeats 100000000 in
set_option maxRecDepth 100000 in
theorem spec_OpenDoors.spec (a0 : Ropeway) (y : (List Int) × Bool) (H : spec_OpenDoors a0 = some y) : Spec Try.prog 41 [(.agg [(.v (.int .i64 a0.1)), (.tree ty_Slot a0.2.1), (.v (.int .i64 a0.2.2.1)), (.v (.int .i64 a0.2.2.2.1)), (.v (.int .i64 a0.2.2.2.2.1))])] [] (spec_OpenDoors.res a0 y) (spec_OpenDoors.out a0 y) := by
  refine spec_intro G9_ok (ct := []) Try.func41 rfl (by kernel_rfl) (by kernel_rfl) rfl ?_
  repeat' first
    | ((with_reducible refine eqg ?_); exact rfl)
    | ((with_reducible refine KOb.mk ?_); kernel_rfl)
    | ((with_reducible intro h); (repeat (first | replace H := grd_k H | replace H := out_step H (by assumption))); first | replace H := cond_t h H | replace H := cond_f h H | exact absurd h (by decide) | skip)
    | ((with_reducible refine Ob.mk ?_); first | rfl | (repeat (first | exact grd_p H | replace H := grd_k H | replace H := out_step H (by assumption))))
    | (with_reducible exact True.intro)
    | constructor
    | ((conv => whnf); first
        | ((with_reducible refine Ob.mk ?_); first | rfl | (repeat (first | exact grd_p H | replace H := grd_k H | replace H := out_step H (by assumption))))
        | ((with_reducible refine CallW.mk ?_); (repeat (first | replace H := grd_k H | replace H := out_step H (by assumption))); replace H := bind_some H; obtain ⟨y, hy, H⟩ := H; first | ((with_reducible have hz : spec_l25Good _ = some y := hy); clear hz; refine Exists.intro _ (Exists.intro _ ⟨spec_l25Good.call hy ?_, rfl, rfl, ?_⟩)) | ((with_reducible have hz : spec_l25Open _ = some y := hy); clear hz; refine Exists.intro _ (Exists.intro _ ⟨spec_l25Open.call hy ?_, rfl, rfl, ?_⟩)))
        | ((with_reducible refine fin_mk ?_); (repeat (first | replace H := grd_k H | replace H := out_step H (by assumption))); have H := Option.some.inj H; subst H))
def G10 : Env := G9.add 41 [] spec_OpenDoors.S
theorem G10_ok : EnvOk Try.prog G10 := G9_ok.add ent_41 fun ar h r h1 ⟨a0, y, hy, e1, e2, e3, e4⟩ => by
  subst e3 e4; exact (spec_OpenDoors.spec a0 y hy).le e1 e2
attribute [local irreducible] spec_OpenDoors

noncomputable def impl_within (a0 : Int) (a1 : Int) (a2 : Int) : Option (Bool) :=
  (cond (decide (a1 ≤ a0)) ((some (decide (a0 ≤ a2)))) ((some false)))
def impl_within.res (_ : Int) (_ : Int) (_ : Int) (y : Bool) : AV := (.bl y)
def impl_within.out (_ : Int) (_ : Int) (_ : Int) (_ : Bool) : List (Option LB) := []
def impl_within.S (ar : List AV) (h : List (Option LB)) (r : AV) (h1 : List (Option LB)) : Prop := ∃ a0 a1 a2 y, impl_within a0 a1 a2 = some y ∧ leL ar [(.v (.int .i64 a0)), (.v (.int .i64 a1)), (.v (.int .i64 a2))] ∧ leH h [] ∧ r = impl_within.res a0 a1 a2 y ∧ h1 = impl_within.out a0 a1 a2 y
theorem impl_within.call {ar : List AV} {h : List (Option LB)} {a0 : Int} {a1 : Int} {a2 : Int} {y : Bool} (H : impl_within a0 a1 a2 = some y) (h0 : leLk ar [(.v (.int .i64 a0)), (.v (.int .i64 a1)), (.v (.int .i64 a2))] (leHk h [])) : impl_within.S ar h (impl_within.res a0 a1 a2 y) (impl_within.out a0 a1 a2 y) := ⟨a0, a1, a2, y, H, (args_ok h0).1, (args_ok h0).2, rfl, rfl⟩
set_option maxHeartbeats 100000000 in
set_option maxRecDepth 100000 in
theorem impl_within.spec (a0 : Int) (a1 : Int) (a2 : Int) (y : Bool) (H : impl_within a0 a1 a2 = some y) : Spec Try.prog 59 [(.v (.int .i64 a0)), (.v (.int .i64 a1)), (.v (.int .i64 a2))] [] (impl_within.res a0 a1 a2 y) (impl_within.out a0 a1 a2 y) := by
  refine spec_intro G10_ok (ct := []) Try.func59 rfl (by kernel_rfl) (by kernel_rfl) rfl ?_
  repeat' first
    | ((with_reducible refine eqg ?_); exact rfl)
    | ((with_reducible refine KOb.mk ?_); kernel_rfl)
    | ((with_reducible intro h); (repeat (first | replace H := grd_k H | replace H := out_step H (by assumption))); first | replace H := cond_t h H | replace H := cond_f h H | exact absurd h (by decide) | skip)
    | ((with_reducible refine Ob.mk ?_); first | rfl | (repeat (first | exact grd_p H | replace H := grd_k H | replace H := out_step H (by assumption))))
    | (with_reducible exact True.intro)
    | constructor
    | ((conv => whnf); first
        | ((with_reducible refine Ob.mk ?_); first | rfl | (repeat (first | exact grd_p H | replace H := grd_k H | replace H := out_step H (by assumption))))
        | ((with_reducible refine fin_mk ?_); (repeat (first | replace H := grd_k H | replace H := out_step H (by assumption))); have H := Option.some.inj H; subst H))
def G11 : Env := G10.add 59 [] impl_within.S
theorem G11_ok : EnvOk Try.prog G11 := G10_ok.add ent_59 fun ar h r h1 ⟨a0, a1, a2, y, hy, e1, e2, e3, e4⟩ => by
  subst e3 e4; exact (impl_within.spec a0 a1 a2 y hy).le e1 e2
attribute [local irreducible] impl_within

noncomputable def impl_Ropeway_isStation (a0 : Ropeway) (a1 : Int) : Option (Bool) :=
  (cond (decide (a1 = (0 : Int))) ((some true)) (grd ((2 : Int) ≠ 0) ((some (decide (a1 = (w64 (Int.tdiv (a0.2.1.length : Int) (2 : Int)))))))))
def impl_Ropeway_isStation.res (_ : Ropeway) (_ : Int) (y : Bool) : AV := (.bl y)
def impl_Ropeway_isStation.out (_ : Ropeway) (_ : Int) (_ : Bool) : List (Option LB) := []
def impl_Ropeway_isStation.S (ar : List AV) (h : List (Option LB)) (r : AV) (h1 : List (Option LB)) : Prop := ∃ a0 a1 y, impl_Ropeway_isStation a0 a1 = some y ∧ leL ar [(.agg [(.v (.int .i64 a0.1)), (.tree ty_Slot a0.2.1), (.v (.int .i64 a0.2.2.1)), (.v (.int .i64 a0.2.2.2.1)), (.v (.int .i64 a0.2.2.2.2.1))]), (.v (.int .i64 a1))] ∧ leH h [] ∧ r = impl_Ropeway_isStation.res a0 a1 y ∧ h1 = impl_Ropeway_isStation.out a0 a1 y
theorem impl_Ropeway_isStation.call {ar : List AV} {h : List (Option LB)} {a0 : Ropeway} {a1 : Int} {y : Bool} (H : impl_Ropeway_isStation a0 a1 = some y) (h0 : leLk ar [(.agg [(.v (.int .i64 a0.1)), (.tree ty_Slot a0.2.1), (.v (.int .i64 a0.2.2.1)), (.v (.int .i64 a0.2.2.2.1)), (.v (.int .i64 a0.2.2.2.2.1))]), (.v (.int .i64 a1))] (leHk h [])) : impl_Ropeway_isStation.S ar h (impl_Ropeway_isStation.res a0 a1 y) (impl_Ropeway_isStation.out a0 a1 y) := ⟨a0, a1, y, H, (args_ok h0).1, (args_ok h0).2, rfl, rfl⟩
set_option maxHeartbeats 100000000 in
set_option maxRecDepth 100000 in
theorem impl_Ropeway_isStation.spec (a0 : Ropeway) (a1 : Int) (y : Bool) (H : impl_Ropeway_isStation a0 a1 = some y) : Spec Try.prog 60 [(.agg [(.v (.int .i64 a0.1)), (.tree ty_Slot a0.2.1), (.v (.int .i64 a0.2.2.1)), (.v (.int .i64 a0.2.2.2.1)), (.v (.int .i64 a0.2.2.2.2.1))]), (.v (.int .i64 a1))] [] (impl_Ropeway_isStation.res a0 a1 y) (impl_Ropeway_isStation.out a0 a1 y) := by
  refine spec_intro G11_ok (ct := []) Try.func60 rfl (by kernel_rfl) (by kernel_rfl) rfl ?_
  repeat' first
    | ((with_reducible refine eqg ?_); exact rfl)
    | ((with_reducible refine KOb.mk ?_); kernel_rfl)
    | ((with_reducible intro h); (repeat (first | replace H := grd_k H | replace H := out_step H (by assumption))); first | replace H := cond_t h H | replace H := cond_f h H | exact absurd h (by decide) | skip)
    | ((with_reducible refine Ob.mk ?_); first | rfl | (repeat (first | exact grd_p H | replace H := grd_k H | replace H := out_step H (by assumption))))
    | (with_reducible exact True.intro)
    | constructor
    | ((conv => whnf); first
        | ((with_reducible refine Ob.mk ?_); first | rfl | (repeat (first | exact grd_p H | replace H := grd_k H | replace H := out_step H (by assumption))))
        | ((with_reducible refine fin_mk ?_); (repeat (first | replace H := grd_k H | replace H := out_step H (by assumption))); have H := Option.some.inj H; subst H))
def G12 : Env := G11.add 60 [] impl_Ropeway_isStation.S
theorem G12_ok : EnvOk Try.prog G12 := G11_ok.add ent_60 fun ar h r h1 ⟨a0, a1, y, hy, e1, e2, e3, e4⟩ => by
  subst e3 e4; exact (impl_Ropeway_isStation.spec a0 a1 y hy).le e1 e2
attribute [local irreducible] impl_Ropeway_isStation

noncomputable def impl_IsRopeway_1_i1 (a0 : Slot) (a100 : Int) (a101 : Bool) (a102 : Int) : Option (Bool) :=
  (some (decide (a0.1 = a100)))
def impl_IsRopeway_1_i1.res (_ : Slot) (_ : Int) (_ : Bool) (_ : Int) (y : Bool) : AV := (.bl y)
def impl_IsRopeway_1_i1.out (_ : Slot) (_ : Int) (_ : Bool) (_ : Int) (_ : Bool) : List (Option LB) := []
def impl_IsRopeway_1_i1.S (ar : List AV) (h : List (Option LB)) (r : AV) (h1 : List (Option LB)) : Prop := ∃ a0 a100 a101 a102 y, impl_IsRopeway_1_i1 a0 a100 a101 a102 = some y ∧ leL ar [(.agg [(.v (.int .i64 a0.1)), (.bl a0.2.1), (.v (.int .i64 a0.2.2.1))]), (.bptr [(.v (.int .i64 a100)), (.bl a101), (.v (.int .i64 a102))] 0)] ∧ leH h [] ∧ r = impl_IsRopeway_1_i1.res a0 a100 a101 a102 y ∧ h1 = impl_IsRopeway_1_i1.out a0 a100 a101 a102 y
theorem impl_IsRopeway_1_i1.call {ar : List AV} {h : List (Option LB)} {a0 : Slot} {a100 : Int} {a101 : Bool} {a102 : Int} {y : Bool} (H : impl_IsRopeway_1_i1 a0 a100 a101 a102 = some y) (h0 : leLk ar [(.agg [(.v (.int .i64 a0.1)), (.bl a0.2.1), (.v (.int .i64 a0.2.2.1))]), (.bptr [(.v (.int .i64 a100)), (.bl a101), (.v (.int .i64 a102))] 0)] (leHk h [])) : impl_IsRopeway_1_i1.S ar h (impl_IsRopeway_1_i1.res a0 a100 a101 a102 y) (impl_IsRopeway_1_i1.out a0 a100 a101 a102 y) := ⟨a0, a100, a101, a102, y, H, (args_ok h0).1, (args_ok h0).2, rfl, rfl⟩
set_option maxHeartbeats 100000000 in
set_option maxRecDepth 100000 in
theorem impl_IsRopeway_1_i1.spec (a0 : Slot) (a100 : Int) (a101 : Bool) (a102 : Int) (y : Bool) (H : impl_IsRopeway_1_i1 a0 a100 a101 a102 = some y) : Spec Try.prog 62 [(.agg [(.v (.int .i64 a0.1)), (.bl a0.2.1), (.v (.int .i64 a0.2.2.1))]), (.bptr [(.v (.int .i64 a100)), (.bl a101), (.v (.int .i64 a102))] 0)] [] (impl_IsRopeway_1_i1.res a0 a100 a101 a102 y) (impl_IsRopeway_1_i1.out a0 a100 a101 a102 y) := by
  refine spec_intro G12_ok (ct := []) Try.func62 rfl (by kernel_rfl) (by kernel_rfl) rfl ?_
  repeat' first
    | ((with_reducible refine eqg ?_); exact rfl)
    | ((with_reducible refine KOb.mk ?_); kernel_rfl)
    | ((with_reducible intro h); (repeat (first | replace H := grd_k H | replace H := out_step H (by assumption))); first | replace H := cond_t h H | replace H := cond_f h H | exact absurd h (by decide) | skip)
    | ((with_reducible refine Ob.mk ?_); first | rfl | (repeat (first | exact grd_p H | replace H := grd_k H | replace H := out_step H (by assumption))))
    | (with_reducible exact True.intro)
    | constructor
    | ((conv => whnf); first
        | ((with_reducible refine Ob.mk ?_); first | rfl | (repeat (first | exact grd_p H | replace H := grd_k H | replace H := out_step H (by assumption))))
        | ((with_reducible refine fin_mk ?_); (repeat (first | replace H := grd_k H | replace H := out_step H (by assumption))); have H := Option.some.inj H; subst H))
def G13 : Env := G12.add 62 [] impl_IsRopeway_1_i1.S
theorem G13_ok : EnvOk Try.prog G13 := G12_ok.add ent_62 fun ar h r h1 ⟨a0, a100, a101, a102, y, hy, e1, e2, e3, e4⟩ => by
  subst e3 e4; exact (impl_IsRopeway_1_i1.spec a0 a100 a101 a102 y hy).le e1 e2
attribute [local irreducible] impl_IsRopeway_1_i1

noncomputable def slices_IndexFunc___impl_Slot_impl_Slot__i1_loop1 (a0 : (List Slot)) (a100 : Int) (a101 : Bool) (a102 : Int) (v4 : Int) : Option (Lp (Int) ((Int) ⊕ (Unit))) :=
  (cond (decide (v4 < (a0.length : Int))) (grd (0 ≤ v4 ∧ v4 < (a0.length : Int)) ((impl_IsRopeway_1_i1 ((a0.getD v4.toNat d_Slot).1, (a0.getD v4.toNat d_Slot).2.1, (a0.getD v4.toNat d_Slot).2.2.1, ()) a100 a101 a102).bind fun y5 => (cond y5 ((some (.out (Sum.inl v4)))) (some (.go (w64 (v4 + (1 : Int)))))))) ((some (.out (Sum.inr ())))))
noncomputable def slices_IndexFunc___impl_Slot_impl_Slot__i1 (a0 : (List Slot)) (a100 : Int) (a101 : Bool) (a102 : Int) : Option (Int) :=
  ((iter (fun s => slices_IndexFunc___impl_Slot_impl_Slot__i1_loop1 a0 a100 a101 a102 s) (0 : Int)).bind (Sum.elim (fun r7 => (some r7)) (fun r8 => (some ((-1) : Int)))))
def slices_IndexFunc___impl_Slot_impl_Slot__i1.res (_ : (List Slot)) (_ : Int) (_ : Bool) (_ : Int) (y : Int) : AV := (.v (.int .i64 y))
def slices_IndexFunc___impl_Slot_impl_Slot__i1.out (_ : (List Slot)) (_ : Int) (_ : Bool) (_ : Int) (_ : Int) : List (Option LB) := []
def slices_IndexFunc___impl_Slot_impl_Slot__i1.S (ar : List AV) (h : List (Option LB)) (r : AV) (h1 : List (Option LB)) : Prop := ∃ a0 a100 a101 a102 y, slices_IndexFunc___impl_Slot_impl_Slot__i1 a0 a100 a101 a102 = some y ∧ leL ar [(.tree ty_Slot a0), (.fn 62 [(.bptr [(.v (.int .i64 a100)), (.bl a101), (.v (.int .i64 a102))] 0)])] ∧ leH h [] ∧ r = slices_IndexFunc___impl_Slot_impl_Slot__i1.res a0 a100 a101 a102 y ∧ h1 = slices_IndexFunc___impl_Slot_impl_Slot__i1.out a0 a100 a101 a102 y
theorem slices_IndexFunc___impl_Slot_impl_Slot__i1.call {ar : List AV} {h : List (Option LB)} {a0 : (List Slot)} {a100 : Int} {a101 : Bool} {a102 : Int} {y : Int} (H : slices_IndexFunc___impl_Slot_impl_Slot__i1 a0 a100 a101 a102 = some y) (h0 : leLk ar [(.tree ty_Slot a0), (.fn 62 [(.bptr [(.v (.int .i64 a100)), (.bl a101), (.v (.int .i64 a102))] 0)])] (leHk h [])) : slices_IndexFunc___impl_Slot_impl_Slot__i1.S ar h (slices_IndexFunc___impl_Slot_impl_Slot__i1.res a0 a100 a101 a102 y) (slices_IndexFunc___impl_Slot_impl_Slot__i1.out a0 a100 a101 a102 y) := ⟨a0, a100, a101, a102, y, H, (args_ok h0).1, (args_ok h0).2, rfl, rfl⟩
set_option maxHeartbeats 100000000 in
set_option maxRecDepth 100000 in
theorem slices_IndexFunc___impl_Slot_impl_Slot__i1.spec (a0 : (List Slot)) (a100 : Int) (a101 : Bool) (a102 : Int) (y : Int) (H : slices_IndexFunc___impl_Slot_impl_Slot__i1 a0 a100 a101 a102 = some y) : Spec Try.prog 87 [(.tree ty_Slot a0), (.fn 62 [(.bptr [(.v (.int .i64 a100)), (.bl a101), (.v (.int .i64 a102))] 0)])] [] (slices_IndexFunc___impl_Slot_impl_Slot__i1.res a0 a100 a101 a102 y) (slices_IndexFunc___impl_Slot_impl_Slot__i1.out a0 a100 a101 a102 y) := by
  refine spec_intro G13_ok (ct := []) Try.func87 rfl (by kernel_rfl) (by kernel_rfl) rfl ?_
  repeat' first
    | ((with_reducible refine eqg ?_); exact rfl)
    | ((with_reducible refine KOb.mk ?_); kernel_rfl)
    | ((with_reducible intro h); (repeat (first | replace H := grd_k H | replace H := out_step H (by assumption))); first | replace H := cond_t h H | replace H := cond_f h H | exact absurd h (by decide) | skip)
    | ((with_reducible refine Ob.mk ?_); first | rfl | (repeat (first | exact grd_p H | replace H := grd_k H | replace H := out_step H (by assumption))))
    | (with_reducible exact True.intro)
    | constructor
    | ((conv => whnf); first
        | ((with_reducible refine Ob.mk ?_); first | rfl | (repeat (first | exact grd_p H | replace H := grd_k H | replace H := out_step H (by assumption))))
        | ((with_reducible refine CallW.mk ?_); (repeat (first | replace H := grd_k H | replace H := out_step H (by assumption))); replace H := bind_some H; obtain ⟨y, hy, H⟩ := H; first | ((with_reducible have hz : impl_IsRopeway_1_i1 _ _ _ _ = some y := hy); clear hz; refine Exists.intro _ (Exists.intro _ ⟨impl_IsRopeway_1_i1.call hy ?_, rfl, rfl, ?_⟩)))
        | ((repeat (first | replace H := grd_k H | replace H := out_step H (by assumption))); refine loop_iter G13_ok (ct := []) (F := (fun s1 : Int => ⟨sl [(0, (.tree ty_Slot a0)), (1, (.fn 62 [(.bptr [(.v (.int .i64 a100)), (.bl a101), (.v (.int .i64 a102))] 0)])), (7, (.v (.int .i64 (a0.length : Int)))), (8, (.v (.int .i64 s1)))], []⟩)) (step := (fun s : Int => slices_IndexFunc___impl_Slot_impl_Slot__i1_loop1 _ _ _ _ s)) _ H (by kernel_rfl) (sub_auto ?_) ?_; rotate_left; (intro s1 r v hr H); rotate_right)
        | ((repeat (first | replace H := grd_k H | replace H := out_step H (by assumption))); refine again_step H (by assumption) (sub_auto ?_))
        | ((with_reducible refine fin_mk ?_); (repeat (first | replace H := grd_k H | replace H := out_step H (by assumption))); have H := Option.some.inj H; subst H))
def G14 : Env := G13.add 87 [] slices_IndexFunc___impl_Slot_impl_Slot__i1.S
theorem G14_ok : EnvOk Try.prog G14 := G13_ok.add ent_87 fun ar h r h1 ⟨a0, a100, a101, a102, y, hy, e1, e2, e3, e4⟩ => by
  subst e3 e4; exact (slices_IndexFunc___impl_Slot_impl_Slot__i1.spec a0 a100 a101 a102 y hy).le e1 e2
attribute [local irreducible] slices_IndexFunc___impl_Slot_impl_Slot__i1

noncomputable def slices_ContainsFunc___impl_Slot_impl_Slot__i1 (a0 : (List Slot)) (a100 : Int) (a101 : Bool) (a102 : Int) : Option (Bool) :=
  ((slices_IndexFunc___impl_Slot_impl_Slot__i1 a0 a100 a101 a102).bind fun y1 => (some (decide ((0 : Int) ≤ y1))))
def slices_ContainsFunc___impl_Slot_impl_Slot__i1.res (_ : (List Slot)) (_ : Int) (_ : Bool) (_ : Int) (y : Bool) : AV := (.bl y)
def slices_ContainsFunc___impl_Slot_impl_Slot__i1.out (_ : (List Slot)) (_ : Int) (_ : Bool) (_ : Int) (_ : Bool) : List (Option LB) := []
def slices_ContainsFunc___impl_Slot_impl_Slot__i1.S (ar : List AV) (h : List (Option LB)) (r : AV) (h1 : List (Option LB)) : Prop := ∃ a0 a100 a101 a102 y, slices_ContainsFunc___impl_Slot_impl_Slot__i1 a0 a100 a101 a102 = some y ∧ leL ar [(.tree ty_Slot a0), (.fn 62 [(.bptr [(.v (.int .i64 a100)), (.bl a101), (.v (.int .i64 a102))] 0)])] ∧ leH h [] ∧ r = slices_ContainsFunc___impl_Slot_impl_Slot__i1.res a0 a100 a101 a102 y ∧ h1 = slices_ContainsFunc___impl_Slot_impl_Slot__i1.out a0 a100 a101 a102 y
theorem slices_ContainsFunc___impl_Slot_impl_Slot__i1.call {ar : List AV} {h : List (Option LB)} {a0 : (List Slot)} {a100 : Int} {a101 : Bool} {a102 : Int} {y : Bool} (H : slices_ContainsFunc___impl_Slot_impl_Slot__i1 a0 a100 a101 a102 = some y) (h0 : leLk ar [(.tree ty_Slot a0), (.fn 62 [(.bptr [(.v (.int .i64 a100)), (.bl a101), (.v (.int .i64 a102))] 0)])] (leHk h [])) : slices_ContainsFunc___impl_Slot_impl_Slot__i1.S ar h (slices_ContainsFunc___impl_Slot_impl_Slot__i1.res a0 a100 a101 a102 y) (slices_ContainsFunc___impl_Slot_impl_Slot__i1.out a0 a100 a101 a102 y) := ⟨a0, a100, a101, a102, y, H, (args_ok h0).1, (args_ok h0).2, rfl, rfl⟩
set_option maxHeartbeats 100000000 in
set_option maxRecDepth 100000 in
theorem slices_ContainsFunc___impl_Slot_impl_Slot__i1.spec (a0 : (List Slot)) (a100 : Int) (a101 : Bool) (a102 : Int) (y : Bool) (H : slices_ContainsFunc___impl_Slot_impl_Slot__i1 a0 a100 a101 a102 = some y) : Spec Try.prog 61 [(.tree ty_Slot a0), (.fn 62 [(.bptr [(.v (.int .i64 a100)), (.bl a101), (.v (.int .i64 a102))] 0)])] [] (slices_ContainsFunc___impl_Slot_impl_Slot__i1.res a0 a100 a101 a102 y) (slices_ContainsFunc___impl_Slot_impl_Slot__i1.out a0 a100 a101 a102 y) := by
  refine spec_intro G14_ok (ct := []) Try.func61 rfl (by kernel_rfl) (by kernel_rfl) rfl ?_
  repeat' first
    | ((with_reducible refine eqg ?_); exact rfl)
    | ((with_reducible refine KOb.mk ?_); kernel_rfl)
    | ((with_reducible intro h); (repeat (first | replace H := grd_k H | replace H := out_step H (by assumption))); first | replace H := cond_t h H | replace H := cond_f h H | exact absurd h (by decide) | skip)
    | ((with_reducible refine Ob.mk ?_); first | rfl | (repeat (first | exact grd_p H | replace H := grd_k H | replace H := out_step H (by assumption))))
    | (with_reducible exact True.intro)
    | constructor
    | ((conv => whnf); first
        | ((with_reducible refine Ob.mk ?_); first | rfl | (repeat (first | exact grd_p H | replace H := grd_k H | replace H := out_step H (by assumption))))
        | ((with_reducible refine CallW.mk ?_); (repeat (first | replace H := grd_k H | replace H := out_step H (by assumption))); replace H := bind_some H; obtain ⟨y, hy, H⟩ := H; first | ((with_reducible have hz : slices_IndexFunc___impl_Slot_impl_Slot__i1 _ _ _ _ = some y := hy); clear hz; refine Exists.intro _ (Exists.intro _ ⟨slices_IndexFunc___impl_Slot_impl_Slot__i1.call hy ?_, rfl, rfl, ?_⟩)))
        | ((with_reducible refine fin_mk ?_); (repeat (first | replace H := grd_k H | replace H := out_step H (by assumption))); have H := Option.some.inj H; subst H))
def G15 : Env := G14.add 61 [] slices_ContainsFunc___impl_Slot_impl_Slot__i1.S
theorem G15_ok : EnvOk Try.prog G15 := G14_ok.add ent_61 fun ar h r h1 ⟨a0, a100, a101, a102, y, hy, e1, e2, e3, e4⟩ => by
  subst e3 e4; exact (slices_ContainsFunc___impl_Slot_impl_Slot__i1.spec a0 a100 a101 a102 y hy).le e1 e2
attribute [local irreducible] slices_ContainsFunc___impl_Slot_impl_Slot__i1

noncomputable def impl_IsRopeway_loop1 (a0 : Ropeway) (v22 : Int) : Option (Lp (Int) ((Unit) ⊕ (Unit))) :=
  (cond (decide (v22 < (a0.2.1.length : Int))) (grd (0 ≤ v22 ∧ v22 < (a0.2.1.length : Int)) ((impl_within ((a0.2.1.getD v22.toNat d_Slot).1) (0 : Int) (20 : Int)).bind fun y23 => (cond (!y23) ((some (.out (Sum.inl ())))) ((impl_within ((a0.2.1.getD v22.toNat d_Slot).2.2.1) (0 : Int) (8 : Int)).bind fun y24 => (cond (!y24) ((some (.out (Sum.inl ())))) (cond (decide (((a0.2.1.getD v22.toNat d_Slot).1) = (0 : Int))) (cond ((a0.2.1.getD v22.toNat d_Slot).2.1) ((some (.out (Sum.inl ())))) (cond (decide ((0 : Int) < ((a0.2.1.getD v22.toNat d_Slot).2.2.1))) ((some (.out (Sum.inl ())))) (some (.go (w64 (v22 + (1 : Int))))))) (cond ((a0.2.1.getD v22.toNat d_Slot).2.1) ((impl_Ropeway_isStation (a0.1, a0.2.1, a0.2.2.1, a0.2.2.2.1, a0.2.2.2.2.1, ()) v22).bind fun y25 => (cond (!y25) ((some (.out (Sum.inl ())))) (grd ((a0.2.1.length : Int) ≠ 0) (grd (0 ≤ (Int.tmod (w64 (v22 + (1 : Int))) (a0.2.1.length : Int)) ∧ (Int.tmod (w64 (v22 + (1 : Int))) (a0.2.1.length : Int)) < (a0.2.1.length : Int)) (cond (decide ((0 : Int) < ((a0.2.1.getD ((Int.tmod (w64 (v22 + (1 : Int))) (a0.2.1.length : Int)).toNat) d_Slot).1))) ((some (.out (Sum.inl ())))) (grd (0 ≤ (0 : Int) ∧ (0 : Int) ≤ v22 ∧ v22 ≤ (a0.2.1.length : Int)) ((slices_ContainsFunc___impl_Slot_impl_Slot__i1 (lsub a0.2.1 (0 : Int) v22) ((a0.2.1.getD v22.toNat d_Slot).1) ((a0.2.1.getD v22.toNat d_Slot).2.1) ((a0.2.1.getD v22.toNat d_Slot).2.2.1)).bind fun y26 => (cond y26 ((some (.out (Sum.inl ())))) (some (.go (w64 (v22 + (1 : Int))))))))))))) (grd ((a0.2.1.length : Int) ≠ 0) (grd (0 ≤ (Int.tmod (w64 (v22 + (1 : Int))) (a0.2.1.length : Int)) ∧ (Int.tmod (w64 (v22 + (1 : Int))) (a0.2.1.length : Int)) < (a0.2.1.length : Int)) (cond (decide ((0 : Int) < ((a0.2.1.getD ((Int.tmod (w64 (v22 + (1 : Int))) (a0.2.1.length : Int)).toNat) d_Slot).1))) ((some (.out (Sum.inl ())))) (grd (0 ≤ (0 : Int) ∧ (0 : Int) ≤ v22 ∧ v22 ≤ (a0.2.1.length : Int)) ((slices_ContainsFunc___impl_Slot_impl_Slot__i1 (lsub a0.2.1 (0 : Int) v22) ((a0.2.1.getD v22.toNat d_Slot).1) ((a0.2.1.getD v22.toNat d_Slot).2.1) ((a0.2.1.getD v22.toNat d_Slot).2.2.1)).bind fun y27 => (cond y27 ((some (.out (Sum.inl ())))) (some (.go (w64 (v22 + (1 : Int)))))))))))))))))) ((some (.out (Sum.inr ())))))
noncomputable def impl_IsRopeway (a0 : Ropeway) : Option (Bool) :=
  ((impl_within a0.1 (0 : Int) (3 : Int)).bind fun y1 => (cond (!y1) ((some false)) ((impl_within (a0.2.1.length : Int) (4 : Int) (10 : Int)).bind fun y2 => (cond (!y2) ((some false)) (grd ((2 : Int) ≠ 0) (cond (!decide ((Int.tmod (a0.2.1.length : Int) (2 : Int)) = (0 : Int))) ((some false)) ((impl_within a0.2.2.1 (0 : Int) (500 : Int)).bind fun y3 => (cond (!y3) ((some false)) ((impl_within a0.2.2.2.1 (0 : Int) (500 : Int)).bind fun y4 => (cond (!y4) ((some false)) ((impl_within a0.2.2.2.2.1 (0 : Int) (500 : Int)).bind fun y5 => (cond (!y5) ((some false)) ((iter (fun s => impl_IsRopeway_loop1 a0 s) (0 : Int)).bind (Sum.elim (fun r29 => (some false)) (fun r30 => (some true))))))))))))))))
def impl_IsRopeway.res (_ : Ropeway) (y : Bool) : AV := (.bl y)
def impl_IsRopeway.out (_ : Ropeway) (_ : Bool) : List (Option LB) := []
def impl_IsRopeway.S (ar : List AV) (h : List (Option LB)) (r : AV) (h1 : List (Option LB)) : Prop := ∃ a0 y, impl_IsRopeway a0 = some y ∧ leL ar [(.agg [(.v (.int .i64 a0.1)), (.tree ty_Slot a0.2.1), (.v (.int .i64 a0.2.2.1)), (.v (.int .i64 a0.2.2.2.1)), (.v (.int .i64 a0.2.2.2.2.1))])] ∧ leH h [] ∧ r = impl_IsRopeway.res a0 y ∧ h1 = impl_IsRopeway.out a0 y
theorem impl_IsRopeway.call {ar : List AV} {h : List (Option LB)} {a0 : Ropeway} {y : Bool} (H : impl_IsRopeway a0 = some y) (h0 : leLk ar [(.agg [(.v (.int .i64 a0.1)), (.tree ty_Slot a0.2.1), (.v (.int .i64 a0.2.2.1)), (.v (.int .i64 a0.2.2.2.1)), (.v (.int .i64 a0.2.2.2.2.1))])] (leHk h [])) : impl_IsRopeway.S ar h (impl_IsRopeway.res a0 y) (impl_IsRopeway.out a0 y) := ⟨a0, y, H, (args_ok h0).1, (args_ok h0).2, rfl, rfl⟩
set_option maxHeartbeats 100000000 in
set_option maxRecDepth 100000 in
theorem impl_IsRopeway.spec (a0 : Ropeway) (y : Bool) (H : impl_IsRopeway a0 = some y) : Spec Try.prog 17 [(.agg [(.v (.int .i64 a0.1)), (.tree ty_Slot a0.2.1), (.v (.int .i64 a0.2.2.1)), (.v (.int .i64 a0.2.2.2.1)), (.v (.int .i64 a0.2.2.2.2.1))])] [] (impl_IsRopeway.res a0 y) (impl_IsRopeway.out a0 y) := by
  refine spec_intro G15_ok (ct := [(3, some [1, 3, 40, 54, 55, 56, 57, 65, 66, 67, 72, 73, 74, 75, 78, 79, 80, 81, 82, 83, 84, 85, 86, 87, 90, 91, 92, 93, 94, 95]), (8, some [1, 3, 4, 5, 42, 43, 44, 54, 55, 56, 57, 58, 65, 66, 67, 72, 73, 74, 75, 78, 79, 80, 81, 82, 83, 84, 85, 86, 87, 90, 91, 92, 93, 94, 95]), (13, some [1, 3, 42, 43, 44, 54, 55, 56, 57, 65, 66, 67, 72, 73, 74, 75, 78, 79, 80, 81, 82, 83, 84, 85, 86, 87, 90, 91, 92, 93, 94, 95, 96])]) Try.func17 rfl (by kernel_rfl) (by kernel_rfl) rfl ?_
  repeat' first
    | ((with_reducible refine eqg ?_); exact rfl)
    | ((with_reducible refine KOb.mk ?_); kernel_rfl)
    | ((with_reducible intro h); (repeat (first | replace H := grd_k H | replace H := out_step H (by assumption))); first | replace H := cond_t h H | replace H := cond_f h H | exact absurd h (by decide) | skip)
    | ((with_reducible refine Ob.mk ?_); first | rfl | (repeat (first | exact grd_p H | replace H := grd_k H | replace H := out_step H (by assumption))))
    | (with_reducible exact True.intro)
    | constructor
    | ((conv => whnf); first
        | ((with_reducible refine Ob.mk ?_); first | rfl | (repeat (first | exact grd_p H | replace H := grd_k H | replace H := out_step H (by assumption))))
        | ((with_reducible refine CallW.mk ?_); (repeat (first | replace H := grd_k H | replace H := out_step H (by assumption))); replace H := bind_some H; obtain ⟨y, hy, H⟩ := H; first | ((with_reducible have hz : impl_within _ _ _ = some y := hy); clear hz; refine Exists.intro _ (Exists.intro _ ⟨impl_within.call hy ?_, rfl, rfl, ?_⟩)) | ((with_reducible have hz : impl_Ropeway_isStation _ _ = some y := hy); clear hz; refine Exists.intro _ (Exists.intro _ ⟨impl_Ropeway_isStation.call hy ?_, rfl, rfl, ?_⟩)) | ((with_reducible have hz : slices_ContainsFunc___impl_Slot_impl_Slot__i1 _ _ _ _ = some y := hy); clear hz; refine Exists.intro _ (Exists.intro _ ⟨slices_ContainsFunc___impl_Slot_impl_Slot__i1.call hy ?_, rfl, rfl, ?_⟩)))
        | ((repeat (first | replace H := grd_k H | replace H := out_step H (by assumption))); refine loop_iter G15_ok (ct := [(3, some [1, 3, 40, 54, 55, 56, 57, 65, 66, 67, 72, 73, 74, 75, 78, 79, 80, 81, 82, 83, 84, 85, 86, 87, 90, 91, 92, 93, 94, 95]), (8, some [1, 3, 4, 5, 42, 43, 44, 54, 55, 56, 57, 58, 65, 66, 67, 72, 73, 74, 75, 78, 79, 80, 81, 82, 83, 84, 85, 86, 87, 90, 91, 92, 93, 94, 95]), (13, some [1, 3, 42, 43, 44, 54, 55, 56, 57, 65, 66, 67, 72, 73, 74, 75, 78, 79, 80, 81, 82, 83, 84, 85, 86, 87, 90, 91, 92, 93, 94, 95, 96])]) (F := (fun s1 : Int => ⟨sl [(1, (.loc 0 0 0)), (3, (.v (.int .i64 (a0.2.1.length : Int)))), (42, (.tree ty_Slot a0.2.1)), (43, (.v (.int .i64 (a0.2.1.length : Int)))), (44, (.v (.int .i64 s1)))], [some (.box 29 [(.v (.int .i64 a0.1)), (.tree ty_Slot a0.2.1), (.v (.int .i64 a0.2.2.1)), (.v (.int .i64 a0.2.2.2.1)), (.v (.int .i64 a0.2.2.2.2.1))])]⟩)) (step := (fun s : Int => impl_IsRopeway_loop1 _ s)) _ H (by kernel_rfl) (sub_auto ?_) ?_; rotate_left; (intro s1 r v hr H); rotate_right)
        | ((repeat (first | replace H := grd_k H | replace H := out_step H (by assumption))); refine again_step H (by assumption) (sub_auto ?_))
        | ((with_reducible refine fin_mk ?_); (repeat (first | replace H := grd_k H | replace H := out_step H (by assumption))); have H := Option.some.inj H; subst H))
def G16 : Env := G15.add 17 [] impl_IsRopeway.S
theorem G16_ok : EnvOk Try.prog G16 := G15_ok.add ent_17 fun ar h r h1 ⟨a0, y, hy, e1, e2, e3, e4⟩ => by
  subst e3 e4; exact (impl_IsRopeway.spec a0 y hy).le e1 e2
attribute [local irreducible] impl_IsRopeway

noncomputable def impl_OpenDoors_loop1 (a0 : Ropeway) (v4 : Int) (v5 : (List Int)) : Option (Lp (Int × (List Int)) (((List Int)))) :=
  (cond (decide (v4 < (a0.2.1.length : Int))) (grd (0 ≤ v4 ∧ v4 < (a0.2.1.length : Int)) (cond ((a0.2.1.getD v4.toNat d_Slot).2.1) (grd ((v5.length + [v4].length) * 8 ≤ 140737488355328 ∧ v5.length + [v4].length ≤ 140737488355328) (some (.go ((w64 (v4 + (1 : Int))), (v5 ++ [v4]))))) (some (.go ((w64 (v4 + (1 : Int))), v5))))) ((some (.out v5))))
noncomputable def impl_OpenDoors (a0 : Ropeway) : Option ((Unit) ⊕ ((List Int))) :=
  ((impl_IsRopeway (a0.1, a0.2.1, a0.2.2.1, a0.2.2.2.1, a0.2.2.2.2.1, ())).bind fun y1 => (cond (!y1) ((some (Sum.inl ()))) ((iter (fun s => impl_OpenDoors_loop1 a0 s.1 s.2) ((0 : Int), ([] : List Int))).bind (fun r6 => (some (Sum.inr r6))))))
def impl_OpenDoors.res (_ : Ropeway) (y : (Unit) ⊕ ((List Int))) : AV := match y with
  | (.inl y) => (.tup [(.v (.slice none 0 0)), (.v (.bool false))])
  | (.inr y) => (.tup [(.own 0), (.v (.bool true))])
def impl_OpenDoors.out (_ : Ropeway) (y : (Unit) ⊕ ((List Int))) : List (Option LB) := match y with
  | (.inl y) => []
  | (.inr y) => [some (.arr 3 (.int .i64) y)]
def impl_OpenDoors.S (ar : List AV) (h : List (Option LB)) (r : AV) (h1 : List (Option LB)) : Prop := ∃ a0 y, impl_OpenDoors a0 = some y ∧ leL ar [(.agg [(.v (.int .i64 a0.1)), (.tree ty_Slot a0.2.1), (.v (.int .i64 a0.2.2.1)), (.v (.int .i64 a0.2.2.2.1)), (.v (.int .i64 a0.2.2.2.2.1))])] ∧ leH h [] ∧ r = impl_OpenDoors.res a0 y ∧ h1 = impl_OpenDoors.out a0 y
theorem impl_OpenDoors.call {ar : List AV} {h : List (Option LB)} {a0 : Ropeway} {y : (Unit) ⊕ ((List Int))} (H : impl_OpenDoors a0 = some y) (h0 : leLk ar [(.agg [(.v (.int .i64 a0.1)), (.tree ty_Slot a0.2.1), (.v (.int .i64 a0.2.2.1)), (.v (.int .i64 a0.2.2.2.1)), (.v (.int .i64 a0.2.2.2.2.1))])] (leHk h [])) : impl_OpenDoors.S ar h (impl_OpenDoors.res a0 y) (impl_OpenDoors.out a0 y) := ⟨a0, y, H, (args_ok h0).1, (args_ok h0).2, rfl, rfl⟩
set_option maxHeartbeats 100000000 in
set_option maxRecDepth 100000 in
theorem impl_OpenDoors.spec (a0 : Ropeway) (y : (Unit) ⊕ ((List Int))) (H : impl_OpenDoors a0 = some y) : Spec Try.prog 25 [(.agg [(.v (.int .i64 a0.1)), (.tree ty_Slot a0.2.1), (.v (.int .i64 a0.2.2.1)), (.v (.int .i64 a0.2.2.2.1)), (.v (.int .i64 a0.2.2.2.2.1))])] [] (impl_OpenDoors.res a0 y) (impl_OpenDoors.out a0 y) := by
  have hlen : Nat.ble ([] : List (Option LB)).length (impl_OpenDoors.out a0 y).length = true := by
    rcases y with y | y <;> rfl
  refine spec_intro G16_ok (ct := [(5, some [4, 12, 13, 14])]) Try.func25 rfl (by kernel_rfl) (by kernel_rfl) hlen ?_
  repeat' first
    | ((with_reducible refine eqg ?_); exact rfl)
    | ((with_reducible refine KOb.mk ?_); kernel_rfl)
    | ((with_reducible intro h); (repeat (first | replace H := grd_k H | replace H := out_step H (by assumption))); first | replace H := cond_t h H | replace H := cond_f h H | exact absurd h (by decide) | skip)
    | ((with_reducible refine Ob.mk ?_); first | rfl | (repeat (first | exact grd_p H | replace H := grd_k H | replace H := out_step H (by assumption))))
    | (with_reducible exact True.intro)
    | constructor
    | ((conv => whnf); first
        | ((with_reducible refine Ob.mk ?_); first | rfl | (repeat (first | exact grd_p H | replace H := grd_k H | replace H := out_step H (by assumption))))
        | ((with_reducible refine CallW.mk ?_); (repeat (first | replace H := grd_k H | replace H := out_step H (by assumption))); replace H := bind_some H; obtain ⟨y, hy, H⟩ := H; first | ((with_reducible have hz : impl_IsRopeway _ = some y := hy); clear hz; refine Exists.intro _ (Exists.intro _ ⟨impl_IsRopeway.call hy ?_, rfl, rfl, ?_⟩)))
        | ((repeat (first | replace H := grd_k H | replace H := out_step H (by assumption))); refine loop_iter G16_ok (ct := [(5, some [4, 12, 13, 14])]) (F := (fun s1 : Int × (List Int) => ⟨sl [(4, (.own 0)), (12, (.tree ty_Slot a0.2.1)), (13, (.v (.int .i64 (a0.2.1.length : Int)))), (14, (.v (.int .i64 s1.1)))], [some (.arr 3 (.int .i64) s1.2)]⟩)) (step := (fun s : Int × (List Int) => impl_OpenDoors_loop1 _ s.1 s.2)) _ H (by kernel_rfl) (sub_auto ?_) ?_; rotate_left; (intro s1 r v hr H); rotate_right)
        | ((repeat (first | replace H := grd_k H | replace H := out_step H (by assumption))); refine again_step H (by assumption) (sub_auto ?_))
        | ((with_reducible refine fin_mk ?_); (repeat (first | replace H := grd_k H | replace H := out_step H (by assumption))); have H := Option.some.inj H; subst H))
def G17 : Env := G16.add 25 [] impl_OpenDoors.S
theorem G17_ok : EnvOk Try.prog G17 := G16_ok.add ent_25 fun ar h r h1 ⟨a0, y, hy, e1, e2, e3, e4⟩ => by
  subst e3 e4; exact (impl_OpenDoors.spec a0 y hy).le e1 e2
attribute [local irreducible] impl_OpenDoors

noncomputable def laws_eqIntS_loop1 (a0 : (List Int)) (a1 : (List Int)) (v2 : Int) : Option (Lp (Int) ((Unit) ⊕ (Unit))) :=
  (cond (decide (v2 < (a0.length : Int))) (grd (0 ≤ v2 ∧ v2 < (a0.length : Int)) (grd (0 ≤ v2 ∧ v2 < (a1.length : Int)) (cond (!decide ((a0.getD v2.toNat 0) = (a1.getD v2.toNat 0))) ((some (.out (Sum.inl ())))) (some (.go (w64 (v2 + (1 : Int)))))))) ((some (.out (Sum.inr ())))))
noncomputable def laws_eqIntS (a0 : (List Int)) (a1 : (List Int)) : Option (Bool) :=
  (cond (!decide ((a0.length : Int) = (a1.length : Int))) ((some false)) ((iter (fun s => laws_eqIntS_loop1 a0 a1 s) (0 : Int)).bind (Sum.elim (fun r4 => (some false)) (fun r5 => (some true)))))
def laws_eqIntS.res (_ : (List Int)) (_ : (List Int)) (y : Bool) : AV := (.bl y)
def laws_eqIntS.out (_ : (List Int)) (_ : (List Int)) (_ : Bool) : List (Option LB) := []
def laws_eqIntS.S (ar : List AV) (h : List (Option LB)) (r : AV) (h1 : List (Option LB)) : Prop := ∃ a0 a1 y, laws_eqIntS a0 a1 = some y ∧ leL ar [(.tree (.int .i64) a0), (.tree (.int .i64) a1)] ∧ leH h [] ∧ r = laws_eqIntS.res a0 a1 y ∧ h1 = laws_eqIntS.out a0 a1 y
theorem laws_eqIntS.call {ar : List AV} {h : List (Option LB)} {a0 : (List Int)} {a1 : (List Int)} {y : Bool} (H : laws_eqIntS a0 a1 = some y) (h0 : leLk ar [(.tree (.int .i64) a0), (.tree (.int .i64) a1)] (leHk h [])) : laws_eqIntS.S ar h (laws_eqIntS.res a0 a1 y) (laws_eqIntS.out a0 a1 y) := ⟨a0, a1, y, H, (args_ok h0).1, (args_ok h0).2, rfl, rfl⟩
set_option maxHeartbeats 100000000 in
set_option maxRecDepth 100000 in
theorem laws_eqIntS.spec (a0 : (List Int)) (a1 : (List Int)) (y : Bool) (H : laws_eqIntS a0 a1 = some y) : Spec Try.prog 42 [(.tree (.int .i64) a0), (.tree (.int .i64) a1)] [] (laws_eqIntS.res a0 a1 y) (laws_eqIntS.out a0 a1 y) := by
  refine spec_intro G17_ok (ct := [(5, some [0, 1, 5])]) Try.func42 rfl (by kernel_rfl) (by kernel_rfl) rfl ?_
  repeat' first
    | ((with_reducible refine eqg ?_); exact rfl)
    | ((with_reducible refine KOb.mk ?_); kernel_rfl)
    | ((with_reducible intro h); (repeat (first | replace H := grd_k H | replace H := out_step H (by assumption))); first | replace H := cond_t h H | replace H := cond_f h H | exact absurd h (by decide) | skip)
    | ((with_reducible refine Ob.mk ?_); first | rfl | (repeat (first | exact grd_p H | replace H := grd_k H | replace H := out_step H (by assumption))))
    | (with_reducible exact True.intro)
    | constructor
    | ((conv => whnf); first
        | ((with_reducible refine Ob.mk ?_); first | rfl | (repeat (first | exact grd_p H | replace H := grd_k H | replace H := out_step H (by assumption))))
        | ((repeat (first | replace H := grd_k H | replace H := out_step H (by assumption))); refine loop_iter G17_ok (ct := [(5, some [0, 1, 5])]) (F := (fun s1 : Int => ⟨sl [(0, (.tree (.int .i64) a0)), (1, (.tree (.int .i64) a1)), (5, (.v (.int .i64 s1)))], []⟩)) (step := (fun s : Int => laws_eqIntS_loop1 _ _ s)) _ H (by kernel_rfl) (sub_auto ?_) ?_; rotate_left; (intro s1 r v hr H); rotate_right)
        | ((repeat (first | replace H := grd_k H | replace H := out_step H (by assumption))); refine again_step H (by assumption) (sub_auto ?_))
        | ((with_reducible refine fin_mk ?_); (repeat (first | replace H := grd_k H | replace H := out_step H (by assumption))); have H := Option.some.inj H; subst H))
def G18 : Env := G17.add 42 [] laws_eqIntS.S
theorem G18_ok : EnvOk Try.prog G18 := G17_ok.add ent_42 fun ar h r h1 ⟨a0, a1, y, hy, e1, e2, e3, e4⟩ => by
  subst e3 e4; exact (laws_eqIntS.spec a0 a1 y hy).le e1 e2
attribute [local irreducible] laws_eqIntS

noncomputable def laws_eqSlot (a0 : Slot) (a1 : Slot) : Option (Bool) :=
  (cond (!decide (a0.1 = a1.1)) ((some false)) (cond (!(a0.2.1 == a1.2.1)) ((some false)) (cond (!decide (a0.2.2.1 = a1.2.2.1)) ((some false)) ((some true)))))
def laws_eqSlot.res (_ : Slot) (_ : Slot) (y : Bool) : AV := (.bl y)
def laws_eqSlot.out (_ : Slot) (_ : Slot) (_ : Bool) : List (Option LB) := []
def laws_eqSlot.S (ar : List AV) (h : List (Option LB)) (r : AV) (h1 : List (Option LB)) : Prop := ∃ a0 a1 y, laws_eqSlot a0 a1 = some y ∧ leL ar [(.agg [(.v (.int .i64 a0.1)), (.bl a0.2.1), (.v (.int .i64 a0.2.2.1))]), (.agg [(.v (.int .i64 a1.1)), (.bl a1.2.1), (.v (.int .i64 a1.2.2.1))])] ∧ leH h [] ∧ r = laws_eqSlot.res a0 a1 y ∧ h1 = laws_eqSlot.out a0 a1 y
theorem laws_eqSlot.call {ar : List AV} {h : List (Option LB)} {a0 : Slot} {a1 : Slot} {y : Bool} (H : laws_eqSlot a0 a1 = some y) (h0 : leLk ar [(.agg [(.v (.int .i64 a0.1)), (.bl a0.2.1), (.v (.int .i64 a0.2.2.1))]), (.agg [(.v (.int .i64 a1.1)), (.bl a1.2.1), (.v (.int .i64 a1.2.2.1))])] (leHk h [])) : laws_eqSlot.S ar h (laws_eqSlot.res a0 a1 y) (laws_eqSlot.out a0 a1 y) := ⟨a0, a1, y, H, (args_ok h0).1, (args_ok h0).2, rfl, rfl⟩
set_option maxHeartbeats 100000000 in
set_option maxRecDepth 100000 in
theorem laws_eqSlot.spec (a0 : Slot) (a1 : Slot) (y : Bool) (H : laws_eqSlot a0 a1 = some y) : Spec Try.prog 88 [(.agg [(.v (.int .i64 a0.1)), (.bl a0.2.1), (.v (.int .i64 a0.2.2.1))]), (.agg [(.v (.int .i64 a1.1)), (.bl a1.2.1), (.v (.int .i64 a1.2.2.1))])] [] (laws_eqSlot.res a0 a1 y) (laws_eqSlot.out a0 a1 y) := by
  refine spec_intro G18_ok (ct := [(4, some [2, 3, 14])]) Try.func88 rfl (by kernel_rfl) (by kernel_rfl) rfl ?_
  repeat' first
    | ((with_reducible refine eqg ?_); exact rfl)
    | ((with_reducible refine KOb.mk ?_); kernel_rfl)
    | ((with_reducible intro h); (repeat (first | replace H := grd_k H | replace H := out_step H (by assumption))); first | replace H := cond_t h H | replace H := cond_f h H | exact absurd h (by decide) | skip)
    | ((with_reducible refine Ob.mk ?_); first | rfl | (repeat (first | exact grd_p H | replace H := grd_k H | replace H := out_step H (by assumption))))
    | (with_reducible exact True.intro)
    | constructor
    | ((conv => whnf); first
        | ((with_reducible refine Ob.mk ?_); first | rfl | (repeat (first | exact grd_p H | replace H := grd_k H | replace H := out_step H (by assumption))))
        | ((with_reducible refine fin_mk ?_); (repeat (first | replace H := grd_k H | replace H := out_step H (by assumption))); have H := Option.some.inj H; subst H))
def G19 : Env := G18.add 88 [] laws_eqSlot.S
theorem G19_ok : EnvOk Try.prog G19 := G18_ok.add ent_88 fun ar h r h1 ⟨a0, a1, y, hy, e1, e2, e3, e4⟩ => by
  subst e3 e4; exact (laws_eqSlot.spec a0 a1 y hy).le e1 e2
attribute [local irreducible] laws_eqSlot

noncomputable def laws_eqSlotS_loop1 (a0 : (List Slot)) (a1 : (List Slot)) (v4 : Int) : Option (Lp (Int) ((Unit) ⊕ (Unit))) :=
  (cond (decide (v4 < (a0.length : Int))) (grd (0 ≤ v4 ∧ v4 < (a0.length : Int)) (grd (0 ≤ v4 ∧ v4 < (a1.length : Int)) ((laws_eqSlot ((a0.getD v4.toNat d_Slot).1, (a0.getD v4.toNat d_Slot).2.1, (a0.getD v4.toNat d_Slot).2.2.1, ()) ((a1.getD v4.toNat d_Slot).1, (a1.getD v4.toNat d_Slot).2.1, (a1.getD v4.toNat d_Slot).2.2.1, ())).bind fun y5 => (cond (!y5) ((some (.out (Sum.inl ())))) (some (.go (w64 (v4 + (1 : Int))))))))) ((some (.out (Sum.inr ())))))
noncomputable def laws_eqSlotS (a0 : (List Slot)) (a1 : (List Slot)) : Option (Bool) :=
  (cond (!decide ((a0.length : Int) = (a1.length : Int))) ((some false)) ((iter (fun s => laws_eqSlotS_loop1 a0 a1 s) (0 : Int)).bind (Sum.elim (fun r7 => (some false)) (fun r8 => (some true)))))
def laws_eqSlotS.res (_ : (List Slot)) (_ : (List Slot)) (y : Bool) : AV := (.bl y)
def laws_eqSlotS.out (_ : (List Slot)) (_ : (List Slot)) (_ : Bool) : List (Option LB) := []
def laws_eqSlotS.S (ar : List AV) (h : List (Option LB)) (r : AV) (h1 : List (Option LB)) : Prop := ∃ a0 a1 y, laws_eqSlotS a0 a1 = some y ∧ leL ar [(.tree ty_Slot a0), (.tree ty_Slot a1)] ∧ leH h [] ∧ r = laws_eqSlotS.res a0 a1 y ∧ h1 = laws_eqSlotS.out a0 a1 y
theorem laws_eqSlotS.call {ar : List AV} {h : List (Option LB)} {a0 : (List Slot)} {a1 : (List Slot)} {y : Bool} (H : laws_eqSlotS a0 a1 = some y) (h0 : leLk ar [(.tree ty_Slot a0), (.tree ty_Slot a1)] (leHk h [])) : laws_eqSlotS.S ar h (laws_eqSlotS.res a0 a1 y) (laws_eqSlotS.out a0 a1 y) := ⟨a0, a1, y, H, (args_ok h0).1, (args_ok h0).2, rfl, rfl⟩
set_option maxHeartbeats 100000000 in
set_option maxRecDepth 100000 in
theorem laws_eqSlotS.spec (a0 : (List Slot)) (a1 : (List Slot)) (y : Bool) (H : laws_eqSlotS a0 a1 = some y) : Spec Try.prog 63 [(.tree ty_Slot a0), (.tree ty_Slot a1)] [] (laws_eqSlotS.res a0 a1 y) (laws_eqSlotS.out a0 a1 y) := by
  refine spec_intro G19_ok (ct := [(7, some [0, 1, 5, 26])]) Try.func63 rfl (by kernel_rfl) (by kernel_rfl) rfl ?_
  repeat' first
    | ((with_reducible refine eqg ?_); exact rfl)
    | ((with_reducible refine KOb.mk ?_); kernel_rfl)
    | ((with_reducible intro h); (repeat (first | replace H := grd_k H | replace H := out_step H (by assumption))); first | replace H := cond_t h H | replace H := cond_f h H | exact absurd h (by decide) | skip)
    | ((with_reducible refine Ob.mk ?_); first | rfl | (repeat (first | exact grd_p H | replace H := grd_k H | replace H := out_step H (by assumption))))
    | (with_reducible exact True.intro)
    | constructor
    | ((conv => whnf); first
        | ((with_reducible refine Ob.mk ?_); first | rfl | (repeat (first | exact grd_p H | replace H := grd_k H | replace H := out_step H (by assumption))))
        | ((with_reducible refine CallW.mk ?_); (repeat (first | replace H := grd_k H | replace H := out_step H (by assumption))); replace H := bind_some H; obtain ⟨y, hy, H⟩ := H; first | ((with_reducible have hz : laws_eqSlot _ _ = some y := hy); clear hz; refine Exists.intro _ (Exists.intro _ ⟨laws_eqSlot.call hy ?_, rfl, rfl, ?_⟩)))
        | ((repeat (first | replace H := grd_k H | replace H := out_step H (by assumption))); refine loop_iter G19_ok (ct := [(7, some [0, 1, 5, 26])]) (F := (fun s1 : Int => ⟨sl [(0, (.tree ty_Slot a0)), (1, (.tree ty_Slot a1)), (5, (.v (.int .i64 s1)))], []⟩)) (step := (fun s : Int => laws_eqSlotS_loop1 _ _ s)) _ H (by kernel_rfl) (sub_auto ?_) ?_; rotate_left; (intro s1 r v hr H); rotate_right)
        | ((repeat (first | replace H := grd_k H | replace H := out_step H (by assumption))); refine again_step H (by assumption) (sub_auto ?_))
        | ((with_reducible refine fin_mk ?_); (repeat (first | replace H := grd_k H | replace H := out_step H (by assumption))); have H := Option.some.inj H; subst H))
def G20 : Env := G19.add 63 [] laws_eqSlotS.S
theorem G20_ok : EnvOk Try.prog G20 := G19_ok.add ent_63 fun ar h r h1 ⟨a0, a1, y, hy, e1, e2, e3, e4⟩ => by
  subst e3 e4; exact (laws_eqSlotS.spec a0 a1 y hy).le e1 e2
attribute [local irreducible] laws_eqSlotS

noncomputable def laws_eqRopeway (a0 : Ropeway) (a1 : Ropeway) : Option (Bool) :=
  (cond (!decide (a0.1 = a1.1)) ((some false)) ((laws_eqSlotS a0.2.1 a1.2.1).bind fun y1 => (cond (!y1) ((some false)) (cond (!decide (a0.2.2.1 = a1.2.2.1)) ((some false)) (cond (!decide (a0.2.2.2.1 = a1.2.2.2.1)) ((some false)) (cond (!decide (a0.2.2.2.2.1 = a1.2.2.2.2.1)) ((some false)) ((some true))))))))
def laws_eqRopeway.res (_ : Ropeway) (_ : Ropeway) (y : Bool) : AV := (.bl y)
def laws_eqRopeway.out (_ : Ropeway) (_ : Ropeway) (_ : Bool) : List (Option LB) := []
def laws_eqRopeway.S (ar : List AV) (h : List (Option LB)) (r : AV) (h1 : List (Option LB)) : Prop := ∃ a0 a1 y, laws_eqRopeway a0 a1 = some y ∧ leL ar [(.agg [(.v (.int .i64 a0.1)), (.tree ty_Slot a0.2.1), (.v (.int .i64 a0.2.2.1)), (.v (.int .i64 a0.2.2.2.1)), (.v (.int .i64 a0.2.2.2.2.1))]), (.agg [(.v (.int .i64 a1.1)), (.tree ty_Slot a1.2.1), (.v (.int .i64 a1.2.2.1)), (.v (.int .i64 a1.2.2.2.1)), (.v (.int .i64 a1.2.2.2.2.1))])] ∧ leH h [] ∧ r = laws_eqRopeway.res a0 a1 y ∧ h1 = laws_eqRopeway.out a0 a1 y
theorem laws_eqRopeway.call {ar : List AV} {h : List (Option LB)} {a0 : Ropeway} {a1 : Ropeway} {y : Bool} (H : laws_eqRopeway a0 a1 = some y) (h0 : leLk ar [(.agg [(.v (.int .i64 a0.1)), (.tree ty_Slot a0.2.1), (.v (.int .i64 a0.2.2.1)), (.v (.int .i64 a0.2.2.2.1)), (.v (.int .i64 a0.2.2.2.2.1))]), (.agg [(.v (.int .i64 a1.1)), (.tree ty_Slot a1.2.1), (.v (.int .i64 a1.2.2.1)), (.v (.int .i64 a1.2.2.2.1)), (.v (.int .i64 a1.2.2.2.2.1))])] (leHk h [])) : laws_eqRopeway.S ar h (laws_eqRopeway.res a0 a1 y) (laws_eqRopeway.out a0 a1 y) := ⟨a0, a1, y, H, (args_ok h0).1, (args_ok h0).2, rfl, rfl⟩
set_option maxHeartbeats 100000000 in
set_option maxRecDepth 100000 in
theorem laws_eqRopeway.spec (a0 : Ropeway) (a1 : Ropeway) (y : Bool) (H : laws_eqRopeway a0 a1 = some y) : Spec Try.prog 18 [(.agg [(.v (.int .i64 a0.1)), (.tree ty_Slot a0.2.1), (.v (.int .i64 a0.2.2.1)), (.v (.int .i64 a0.2.2.2.1)), (.v (.int .i64 a0.2.2.2.2.1))]), (.agg [(.v (.int .i64 a1.1)), (.tree ty_Slot a1.2.1), (.v (.int .i64 a1.2.2.1)), (.v (.int .i64 a1.2.2.2.1)), (.v (.int .i64 a1.2.2.2.2.1))])] [] (laws_eqRopeway.res a0 a1 y) (laws_eqRopeway.out a0 a1 y) := by
  refine spec_intro G20_ok (ct := [(4, some [2, 3, 15]), (10, some [30])]) Try.func18 rfl (by kernel_rfl) (by kernel_rfl) rfl ?_
  repeat' first
    | ((with_reducible refine eqg ?_); exact rfl)
    | ((with_reducible refine KOb.mk ?_); kernel_rfl)
    | ((with_reducible intro h); (repeat (first | replace H := grd_k H | replace H := out_step H (by assumption))); first | replace H := cond_t h H | replace H := cond_f h H | exact absurd h (by decide) | skip)
    | ((with_reducible refine Ob.mk ?_); first | rfl | (repeat (first | exact grd_p H | replace H := grd_k H | replace H := out_step H (by assumption))))
    | (with_reducible exact True.intro)
    | constructor
    | ((conv => whnf); first
        | ((with_reducible refine Ob.mk ?_); first | rfl | (repeat (first | exact grd_p H | replace H := grd_k H | replace H := out_step H (by assumption))))
        | ((with_reducible refine CallW.mk ?_); (repeat (first | replace H := grd_k H | replace H := out_step H (by assumption))); replace H := bind_some H; obtain ⟨y, hy, H⟩ := H; first | ((with_reducible have hz : laws_eqSlotS _ _ = some y := hy); clear hz; refine Exists.intro _ (Exists.intro _ ⟨laws_eqSlotS.call hy ?_, rfl, rfl, ?_⟩)))
        | ((with_reducible refine fin_mk ?_); (repeat (first | replace H := grd_k H | replace H := out_step H (by assumption))); have H := Option.some.inj H; subst H))
def G21 : Env := G20.add 18 [] laws_eqRopeway.S
theorem G21_ok : EnvOk Try.prog G21 := G20_ok.add ent_18 fun ar h r h1 ⟨a0, a1, y, hy, e1, e2, e3, e4⟩ => by
  subst e3 e4; exact (laws_eqRopeway.spec a0 a1 y hy).le e1 e2
attribute [local irreducible] laws_eqRopeway

noncomputable def laws_markSlotS_loop1  (v4 : Int) (v5 : Int) (v6 : (List Slot)) : Option (Lp (Int × Int × (List Slot)) ((Int × (List Slot)))) :=
  (cond (decide (v5 < (v6.length : Int))) (grd (0 ≤ v5 ∧ v5 < (v6.length : Int)) (grd ((3 : Int) ≠ 0) (grd (0 ≤ v5 ∧ v5 < ((v6.set v5.toNat (v4, (v6.getD v5.toNat d_Slot).2.1, (v6.getD v5.toNat d_Slot).2.2.1, ())).length : Int)) (grd (0 ≤ v5 ∧ v5 < (((v6.set v5.toNat (v4, (v6.getD v5.toNat d_Slot).2.1, (v6.getD v5.toNat d_Slot).2.2.1, ())).set v5.toNat (((v6.set v5.toNat (v4, (v6.getD v5.toNat d_Slot).2.1, (v6.getD v5.toNat d_Slot).2.2.1, ())).getD v5.toNat d_Slot).1, (decide ((Int.tmod (w64 (v4 + (1 : Int))) (3 : Int)) = (0 : Int))), ((v6.set v5.toNat (v4, (v6.getD v5.toNat d_Slot).2.1, (v6.getD v5.toNat d_Slot).2.2.1, ())).getD v5.toNat d_Slot).2.2.1, ())).length : Int)) (some (.go ((w64 ((w64 ((w64 (v4 + (1 : Int))) + (1 : Int))) + (1 : Int))), (w64 (v5 + (1 : Int))), (((v6.set v5.toNat (v4, (v6.getD v5.toNat d_Slot).2.1, (v6.getD v5.toNat d_Slot).2.2.1, ())).set v5.toNat (((v6.set v5.toNat (v4, (v6.getD v5.toNat d_Slot).2.1, (v6.getD v5.toNat d_Slot).2.2.1, ())).getD v5.toNat d_Slot).1, (decide ((Int.tmod (w64 (v4 + (1 : Int))) (3 : Int)) = (0 : Int))), ((v6.set v5.toNat (v4, (v6.getD v5.toNat d_Slot).2.1, (v6.getD v5.toNat d_Slot).2.2.1, ())).getD v5.toNat d_Slot).2.2.1, ())).set v5.toNat ((((v6.set v5.toNat (v4, (v6.getD v5.toNat d_Slot).2.1, (v6.getD v5.toNat d_Slot).2.2.1, ())).set v5.toNat (((v6.set v5.toNat (v4, (v6.getD v5.toNat d_Slot).2.1, (v6.getD v5.toNat d_Slot).2.2.1, ())).getD v5.toNat d_Slot).1, (decide ((Int.tmod (w64 (v4 + (1 : Int))) (3 : Int)) = (0 : Int))), ((v6.set v5.toNat (v4, (v6.getD v5.toNat d_Slot).2.1, (v6.getD v5.toNat d_Slot).2.2.1, ())).getD v5.toNat d_Slot).2.2.1, ())).getD v5.toNat d_Slot).1, (((v6.set v5.toNat (v4, (v6.getD v5.toNat d_Slot).2.1, (v6.getD v5.toNat d_Slot).2.2.1, ())).set v5.toNat (((v6.set v5.toNat (v4, (v6.getD v5.toNat d_Slot).2.1, (v6.getD v5.toNat d_Slot).2.2.1, ())).getD v5.toNat d_Slot).1, (decide ((Int.tmod (w64 (v4 + (1 : Int))) (3 : Int)) = (0 : Int))), ((v6.set v5.toNat (v4, (v6.getD v5.toNat d_Slot).2.1, (v6.getD v5.toNat d_Slot).2.2.1, ())).getD v5.toNat d_Slot).2.2.1, ())).getD v5.toNat d_Slot).2.1, (w64 ((w64 (v4 + (1 : Int))) + (1 : Int))), ()))))))))) ((some (.out (v4, v6)))))
noncomputable def laws_markSlotS (a0 : (List Slot)) (a1 : Int) : Option (Int × (List Slot)) :=
  ((iter (fun s => laws_markSlotS_loop1 s.1 s.2.1 s.2.2) (a1, (0 : Int), a0)).bind (fun r7 => (some (r7.1, r7.2))))
def laws_markSlotS.res (_ : (List Slot)) (_ : Int) (y : Int × (List Slot)) : AV := (.v (.int .i64 y.1))
def laws_markSlotS.out (_ : (List Slot)) (_ : Int) (y : Int × (List Slot)) : List (Option LB) := [some (.arr 47 ty_Slot y.2)]
def laws_markSlotS.S (ar : List AV) (h : List (Option LB)) (r : AV) (h1 : List (Option LB)) : Prop := ∃ a0 a1 y, laws_markSlotS a0 a1 = some y ∧ leL ar [(.own 0), (.v (.int .i64 a1))] ∧ leH h [some (.arr 47 ty_Slot a0)] ∧ r = laws_markSlotS.res a0 a1 y ∧ h1 = laws_markSlotS.out a0 a1 y
theorem laws_markSlotS.call {ar : List AV} {h : List (Option LB)} {a0 : (List Slot)} {a1 : Int} {y : Int × (List Slot)} (H : laws_markSlotS a0 a1 = some y) (h0 : leLk ar [(.own 0), (.v (.int .i64 a1))] (leHk h [some (.arr 47 ty_Slot a0)])) : laws_markSlotS.S ar h (laws_markSlotS.res a0 a1 y) (laws_markSlotS.out a0 a1 y) := ⟨a0, a1, y, H, (args_ok h0).1, (args_ok h0).2, rfl, rfl⟩
set_option maxHeartbeats 100000000 in
set_option maxRecDepth 100000 in
theorem laws_markSlotS.spec (a0 : (List Slot)) (a1 : Int) (y : Int × (List Slot)) (H : laws_markSlotS a0 a1 = some y) : Spec Try.prog 77 [(.own 0), (.v (.int .i64 a1))] [some (.arr 47 ty_Slot a0)] (laws_markSlotS.res a0 a1 y) (laws_markSlotS.out a0 a1 y) := by
  refine spec_intro G21_ok (ct := [(7, some [0, 1, 5])]) Try.func77 rfl (by kernel_rfl) (by kernel_rfl) rfl ?_
  repeat' first
    | ((with_reducible refine eqg ?_); exact rfl)
    | ((with_reducible refine KOb.mk ?_); kernel_rfl)
    | ((with_reducible intro h); (repeat (first | replace H := grd_k H | replace H := out_step H (by assumption))); first | replace H := cond_t h H | replace H := cond_f h H | exact absurd h (by decide) | skip)
    | ((with_reducible refine Ob.mk ?_); first | rfl | (repeat (first | exact grd_p H | replace H := grd_k H | replace H := out_step H (by assumption))))
    | (with_reducible exact True.intro)
    | constructor
    | ((conv => whnf); first
        | ((with_reducible refine Ob.mk ?_); first | rfl | (repeat (first | exact grd_p H | replace H := grd_k H | replace H := out_step H (by assumption))))
        | ((repeat (first | replace H := grd_k H | replace H := out_step H (by assumption))); refine loop_iter G21_ok (ct := [(7, some [0, 1, 5])]) (F := (fun s1 : Int × Int × (List Slot) => ⟨sl [(0, (.own 0)), (1, (.v (.int .i64 s1.1))), (5, (.v (.int .i64 s1.2.1)))], [some (.arr 47 ty_Slot s1.2.2)]⟩)) (step := (fun s : Int × Int × (List Slot) => laws_markSlotS_loop1 s.1 s.2.1 s.2.2)) _ H (by kernel_rfl) (sub_auto ?_) ?_; rotate_left; (intro s1 r v hr H); rotate_right)
        | ((repeat (first | replace H := grd_k H | replace H := out_step H (by assumption))); refine again_step H (by assumption) (sub_auto ?_))
        | ((with_reducible refine fin_mk ?_); (repeat (first | replace H := grd_k H | replace H := out_step H (by assumption))); have H := Option.some.inj H; subst H))
def G22 : Env := G21.add 77 [true] laws_markSlotS.S
theorem G22_ok : EnvOk Try.prog G22 := G21_ok.add ent_77 fun ar h r h1 ⟨a0, a1, y, hy, e1, e2, e3, e4⟩ => by
  subst e3 e4; exact (laws_markSlotS.spec a0 a1 y hy).le e1 e2
attribute [local irreducible] laws_markSlotS

noncomputable def laws_markRopeway (a0 : Ropeway) (a1 : Int) : Option (Int × (List Slot)) :=
  ((laws_markSlotS a0.2.1 a1).bind fun y1 => (some (y1.1, y1.2)))
def laws_markRopeway.res (_ : Ropeway) (_ : Int) (y : Int × (List Slot)) : AV := (.v (.int .i64 y.1))
def laws_markRopeway.out (_ : Ropeway) (_ : Int) (y : Int × (List Slot)) : List (Option LB) := [some (.arr 47 ty_Slot y.2)]
def laws_markRopeway.S (ar : List AV) (h : List (Option LB)) (r : AV) (h1 : List (Option LB)) : Prop := ∃ a0 a1 y, laws_markRopeway a0 a1 = some y ∧ leL ar [(.agg [(.v (.int .i64 a0.1)), (.own 0), (.v (.int .i64 a0.2.2.1)), (.v (.int .i64 a0.2.2.2.1)), (.v (.int .i64 a0.2.2.2.2.1))]), (.v (.int .i64 a1))] ∧ leH h [some (.arr 47 ty_Slot a0.2.1)] ∧ r = laws_markRopeway.res a0 a1 y ∧ h1 = laws_markRopeway.out a0 a1 y
theorem laws_markRopeway.call {ar : List AV} {h : List (Option LB)} {a0 : Ropeway} {a1 : Int} {y : Int × (List Slot)} (H : laws_markRopeway a0 a1 = some y) (h0 : leLk ar [(.agg [(.v (.int .i64 a0.1)), (.own 0), (.v (.int .i64 a0.2.2.1)), (.v (.int .i64 a0.2.2.2.1)), (.v (.int .i64 a0.2.2.2.2.1))]), (.v (.int .i64 a1))] (leHk h [some (.arr 47 ty_Slot a0.2.1)])) : laws_markRopeway.S ar h (laws_markRopeway.res a0 a1 y) (laws_markRopeway.out a0 a1 y) := ⟨a0, a1, y, H, (args_ok h0).1, (args_ok h0).2, rfl, rfl⟩
set_option maxHeartbeats 100000000 in
set_option maxRecDepth 100000 in
theorem laws_markRopeway.spec (a0 : Ropeway) (a1 : Int) (y : Int × (List Slot)) (H : laws_markRopeway a0 a1 = some y) : Spec Try.prog 32 [(.agg [(.v (.int .i64 a0.1)), (.own 0), (.v (.int .i64 a0.2.2.1)), (.v (.int .i64 a0.2.2.2.1)), (.v (.int .i64 a0.2.2.2.2.1))]), (.v (.int .i64 a1))] [some (.arr 47 ty_Slot a0.2.1)] (laws_markRopeway.res a0 a1 y) (laws_markRopeway.out a0 a1 y) := by
  refine spec_intro G22_ok (ct := []) Try.func32 rfl (by kernel_rfl) (by kernel_rfl) rfl ?_
  repeat' first
    | ((with_reducible refine eqg ?_); exact rfl)
    | ((with_reducible refine KOb.mk ?_); kernel_rfl)
    | ((with_reducible intro h); (repeat (first | replace H := grd_k H | replace H := out_step H (by assumption))); first | replace H := cond_t h H | replace H := cond_f h H | exact absurd h (by decide) | skip)
    | ((with_reducible refine Ob.mk ?_); first | rfl | (repeat (first | exact grd_p H | replace H := grd_k H | replace H := out_step H (by assumption))))
    | (with_reducible exact True.intro)
    | constructor
    | ((conv => whnf); first
        | ((with_reducible refine Ob.mk ?_); first | rfl | (repeat (first | exact grd_p H | replace H := grd_k H | replace H := out_step H (by assumption))))
        | ((with_reducible refine CallW.mk ?_); (repeat (first | replace H := grd_k H | replace H := out_step H (by assumption))); replace H := bind_some H; obtain ⟨y, hy, H⟩ := H; first | ((with_reducible have hz : laws_markSlotS _ _ = some y := hy); clear hz; refine Exists.intro _ (Exists.intro _ ⟨laws_markSlotS.call hy ?_, rfl, rfl, ?_⟩)))
        | ((with_reducible refine fin_mk ?_); (repeat (first | replace H := grd_k H | replace H := out_step H (by assumption))); have H := Option.some.inj H; subst H))
def G23 : Env := G22.add 32 [true] laws_markRopeway.S
theorem G23_ok : EnvOk Try.prog G23 := G22_ok.add ent_32 fun ar h r h1 ⟨a0, a1, y, hy, e1, e2, e3, e4⟩ => by
  subst e3 e4; exact (laws_markRopeway.spec a0 a1 y hy).le e1 e2
attribute [local irreducible] laws_markRopeway

noncomputable def laws_markIntS_loop1  (v4 : Int) (v5 : Int) (v6 : (List Int)) : Option (Lp (Int × Int × (List Int)) ((Int × (List Int)))) :=
  (cond (decide (v5 < (v6.length : Int))) (grd (0 ≤ v5 ∧ v5 < (v6.length : Int)) (some (.go ((w64 (v4 + (1 : Int))), (w64 (v5 + (1 : Int))), (v6.set v5.toNat v4))))) ((some (.out (v4, v6)))))
noncomputable def laws_markIntS (a0 : (List Int)) (a1 : Int) : Option (Int × (List Int)) :=
  ((iter (fun s => laws_markIntS_loop1 s.1 s.2.1 s.2.2) (a1, (0 : Int), a0)).bind (fun r7 => (some (r7.1, r7.2))))
def laws_markIntS.res (_ : (List Int)) (_ : Int) (y : Int × (List Int)) : AV := (.v (.int .i64 y.1))
def laws_markIntS.out (_ : (List Int)) (_ : Int) (y : Int × (List Int)) : List (Option LB) := [some (.arr 3 (.int .i64) y.2)]
def laws_markIntS.S (ar : List AV) (h : List (Option LB)) (r : AV) (h1 : List (Option LB)) : Prop := ∃ a0 a1 y, laws_markIntS a0 a1 = some y ∧ leL ar [(.own 0), (.v (.int .i64 a1))] ∧ leH h [some (.arr 3 (.int .i64) a0)] ∧ r = laws_markIntS.res a0 a1 y ∧ h1 = laws_markIntS.out a0 a1 y
theorem laws_markIntS.call {ar : List AV} {h : List (Option LB)} {a0 : (List Int)} {a1 : Int} {y : Int × (List Int)} (H : laws_markIntS a0 a1 = some y) (h0 : leLk ar [(.own 0), (.v (.int .i64 a1))] (leHk h [some (.arr 3 (.int .i64) a0)])) : laws_markIntS.S ar h (laws_markIntS.res a0 a1 y) (laws_markIntS.out a0 a1 y) := ⟨a0, a1, y, H, (args_ok h0).1, (args_ok h0).2, rfl, rfl⟩
set_option maxHeartbeats 100000000 in
set_option maxRecDepth 100000 in
theorem laws_markIntS.spec (a0 : (List Int)) (a1 : Int) (y : Int × (List Int)) (H : laws_markIntS a0 a1 = some y) : Spec Try.prog 43 [(.own 0), (.v (.int .i64 a1))] [some (.arr 3 (.int .i64) a0)] (laws_markIntS.res a0 a1 y) (laws_markIntS.out a0 a1 y) := by
  refine spec_intro G23_ok (ct := []) Try.func43 rfl (by kernel_rfl) (by kernel_rfl) rfl ?_
  repeat' first
    | ((with_reducible refine eqg ?_); exact rfl)
    | ((with_reducible refine KOb.mk ?_); kernel_rfl)
    | ((with_reducible intro h); (repeat (first | replace H := grd_k H | replace H := out_step H (by assumption))); first | replace H := cond_t h H | replace H := cond_f h H | exact absurd h (by decide) | skip)
    | ((with_reducible refine Ob.mk ?_); first | rfl | (repeat (first | exact grd_p H | replace H := grd_k H | replace H := out_step H (by assumption))))
    | (with_reducible exact True.intro)
    | constructor
    | ((conv => whnf); first
        | ((with_reducible refine Ob.mk ?_); first | rfl | (repeat (first | exact grd_p H | replace H := grd_k H | replace H := out_step H (by assumption))))
        | ((repeat (first | replace H := grd_k H | replace H := out_step H (by assumption))); refine loop_iter G23_ok (ct := []) (F := (fun s1 : Int × Int × (List Int) => ⟨sl [(0, (.own 0)), (1, (.v (.int .i64 s1.1))), (5, (.v (.int .i64 s1.2.1)))], [some (.arr 3 (.int .i64) s1.2.2)]⟩)) (step := (fun s : Int × Int × (List Int) => laws_markIntS_loop1 s.1 s.2.1 s.2.2)) _ H (by kernel_rfl) (sub_auto ?_) ?_; rotate_left; (intro s1 r v hr H); rotate_right)
        | ((repeat (first | replace H := grd_k H | replace H := out_step H (by assumption))); refine again_step H (by assumption) (sub_auto ?_))
        | ((with_reducible refine fin_mk ?_); (repeat (first | replace H := grd_k H | replace H := out_step H (by assumption))); have H := Option.some.inj H; subst H))
def G24 : Env := G23.add 43 [true] laws_markIntS.S
theorem G24_ok : EnvOk Try.prog G24 := G23_ok.add ent_43 fun ar h r h1 ⟨a0, a1, y, hy, e1, e2, e3, e4⟩ => by
  subst e3 e4; exact (laws_markIntS.spec a0 a1 y hy).le e1 e2
attribute [local irreducible] laws_markIntS

noncomputable def laws_heldIntS_loop1 (a0 : (List Int)) (v3 : Int) (v4 : Int) : Option (Lp (Int × Int) ((Unit) ⊕ (Int))) :=
  (cond (decide (v4 < (a0.length : Int))) (grd (0 ≤ v4 ∧ v4 < (a0.length : Int)) (cond (!decide ((a0.getD v4.toNat 0) = v3)) ((some (.out (Sum.inl ())))) (some (.go ((w64 (v3 + (1 : Int))), (w64 (v4 + (1 : Int)))))))) ((some (.out (Sum.inr v3)))))
noncomputable def laws_heldIntS (a0 : (List Int)) (a1 : Int) : Option (Int) :=
  ((iter (fun s => laws_heldIntS_loop1 a0 s.1 s.2) (a1, (0 : Int))).bind (Sum.elim (fun r6 => (some ((-1) : Int))) (fun r7 => (some r7))))
def laws_heldIntS.res (_ : (List Int)) (_ : Int) (y : Int) : AV := (.v (.int .i64 y))
def laws_heldIntS.out (_ : (List Int)) (_ : Int) (_ : Int) : List (Option LB) := []
def laws_heldIntS.S (ar : List AV) (h : List (Option LB)) (r : AV) (h1 : List (Option LB)) : Prop := ∃ a0 a1 y, laws_heldIntS a0 a1 = some y ∧ leL ar [(.tree (.int .i64) a0), (.v (.int .i64 a1))] ∧ leH h [] ∧ r = laws_heldIntS.res a0 a1 y ∧ h1 = laws_heldIntS.out a0 a1 y
theorem laws_heldIntS.call {ar : List AV} {h : List (Option LB)} {a0 : (List Int)} {a1 : Int} {y : Int} (H : laws_heldIntS a0 a1 = some y) (h0 : leLk ar [(.tree (.int .i64) a0), (.v (.int .i64 a1))] (leHk h [])) : laws_heldIntS.S ar h (laws_heldIntS.res a0 a1 y) (laws_heldIntS.out a0 a1 y) := ⟨a0, a1, y, H, (args_ok h0).1, (args_ok h0).2, rfl, rfl⟩
set_option maxHeartbeats 100000000 in
set_option maxRecDepth 100000 in
theorem laws_heldIntS.spec (a0 : (List Int)) (a1 : Int) (y : Int) (H : laws_heldIntS a0 a1 = some y) : Spec Try.prog 44 [(.tree (.int .i64) a0), (.v (.int .i64 a1))] [] (laws_heldIntS.res a0 a1 y) (laws_heldIntS.out a0 a1 y) := by
  refine spec_intro G24_ok (ct := [(3, some [0, 1, 5])]) Try.func44 rfl (by kernel_rfl) (by kernel_rfl) rfl ?_
  repeat' first
    | ((with_reducible refine eqg ?_); exact rfl)
    | ((with_reducible refine KOb.mk ?_); kernel_rfl)
    | ((with_reducible intro h); (repeat (first | replace H := grd_k H | replace H := out_step H (by assumption))); first | replace H := cond_t h H | replace H := cond_f h H | exact absurd h (by decide) | skip)
    | ((with_reducible refine Ob.mk ?_); first | rfl | (repeat (first | exact grd_p H | replace H := grd_k H | replace H := out_step H (by assumption))))
    | (with_reducible exact True.intro)
    | constructor
    | ((conv => whnf); first
        | ((with_reducible refine Ob.mk ?_); first | rfl | (repeat (first | exact grd_p H | replace H := grd_k H | replace H := out_step H (by assumption))))
        | ((repeat (first | replace H := grd_k H | replace H := out_step H (by assumption))); refine loop_iter G24_ok (ct := [(3, some [0, 1, 5])]) (F := (fun s1 : Int × Int => ⟨sl [(0, (.tree (.int .i64) a0)), (1, (.v (.int .i64 s1.1))), (5, (.v (.int .i64 s1.2)))], []⟩)) (step := (fun s : Int × Int => laws_heldIntS_loop1 _ s.1 s.2)) _ H (by kernel_rfl) (sub_auto ?_) ?_; rotate_left; (intro s1 r v hr H); rotate_right)
        | ((repeat (first | replace H := grd_k H | replace H := out_step H (by assumption))); refine again_step H (by assumption) (sub_auto ?_))
        | ((with_reducible refine fin_mk ?_); (repeat (first | replace H := grd_k H | replace H := out_step H (by assumption))); have H := Option.some.inj H; subst H))
def G25 : Env := G24.add 44 [] laws_heldIntS.S
theorem G25_ok : EnvOk Try.prog G25 := G24_ok.add ent_44 fun ar h r h1 ⟨a0, a1, y, hy, e1, e2, e3, e4⟩ => by
  subst e3 e4; exact (laws_heldIntS.spec a0 a1 y hy).le e1 e2
attribute [local irreducible] laws_heldIntS

noncomputable def laws_markIntS_i1_loop1   : Option (Lp (Unit) ((Unit))) :=
  (some (.out ()))
noncomputable def laws_markIntS_i1 (a1 : Int) : Option (Int) :=
  ((iter (fun s => laws_markIntS_i1_loop1) ()).bind (fun r1 => (some a1)))
def laws_markIntS_i1.res (_ : Int) (y : Int) : AV := (.v (.int .i64 y))
def laws_markIntS_i1.out (_ : Int) (_ : Int) : List (Option LB) := []
def laws_markIntS_i1.S (ar : List AV) (h : List (Option LB)) (r : AV) (h1 : List (Option LB)) : Prop := ∃ a1 y, laws_markIntS_i1 a1 = some y ∧ leL ar [(.v (.slice none 0 0)), (.v (.int .i64 a1))] ∧ leH h [] ∧ r = laws_markIntS_i1.res a1 y ∧ h1 = laws_markIntS_i1.out a1 y
theorem laws_markIntS_i1.call {ar : List AV} {h : List (Option LB)} {a1 : Int} {y : Int} (H : laws_markIntS_i1 a1 = some y) (h0 : leLk ar [(.v (.slice none 0 0)), (.v (.int .i64 a1))] (leHk h [])) : laws_markIntS_i1.S ar h (laws_markIntS_i1.res a1 y) (laws_markIntS_i1.out a1 y) := ⟨a1, y, H, (args_ok h0).1, (args_ok h0).2, rfl, rfl⟩
set_option maxHeartbeats 100000000 in
set_option maxRecDepth 100000 in
theorem laws_markIntS_i1.spec (a1 : Int) (y : Int) (H : laws_markIntS_i1 a1 = some y) : Spec Try.prog 43 [(.v (.slice none 0 0)), (.v (.int .i64 a1))] [] (laws_markIntS_i1.res a1 y) (laws_markIntS_i1.out a1 y) := by
  refine spec_intro G25_ok (ct := []) Try.func43 rfl (by kernel_rfl) (by kernel_rfl) rfl ?_
  repeat' first
    | ((with_reducible refine eqg ?_); exact rfl)
    | ((with_reducible refine KOb.mk ?_); kernel_rfl)
    | ((with_reducible intro h); (repeat (first | replace H := grd_k H | replace H := out_step H (by assumption))); first | replace H := cond_t h H | replace H := cond_f h H | exact absurd h (by decide) | skip)
    | ((with_reducible refine Ob.mk ?_); first | rfl | (repeat (first | exact grd_p H | replace H := grd_k H | replace H := out_step H (by assumption))))
    | (with_reducible exact True.intro)
    | constructor
    | ((conv => whnf); first
        | ((with_reducible refine Ob.mk ?_); first | rfl | (repeat (first | exact grd_p H | replace H := grd_k H | replace H := out_step H (by assumption))))
        | ((repeat (first | replace H := grd_k H | replace H := out_step H (by assumption))); refine loop_iter G25_ok (ct := []) (F := (fun s1 : Unit => ⟨sl [(0, (.v (.slice none 0 0))), (1, (.v (.int .i64 a1))), (5, (.v (.int .i64 (0 : Int))))], []⟩)) (step := (fun s : Unit => laws_markIntS_i1_loop1)) _ H (by kernel_rfl) (sub_auto ?_) ?_; rotate_left; (intro s1 r v hr H); rotate_right)
        | ((repeat (first | replace H := grd_k H | replace H := out_step H (by assumption))); refine again_step H (by assumption) (sub_auto ?_))
        | ((with_reducible refine fin_mk ?_); (repeat (first | replace H := grd_k H | replace H := out_step H (by assumption))); have H := Option.some.inj H; subst H))
def G26 : Env := G25.addOr 43 [true] laws_markIntS_i1.S
theorem G26_ok : EnvOk Try.prog G26 := G25_ok.addOr ent_43 fun ar h r h1 ⟨a1, y, hy, e1, e2, e3, e4⟩ => by
  subst e3 e4; exact (laws_markIntS_i1.spec a1 y hy).le e1 e2
attribute [local irreducible] laws_markIntS_i1

noncomputable def laws_FnExactOpenDoors (a0 : Ropeway) : Option (Bool) :=
  ((laws_szRopeway (a0.1, a0.2.1, a0.2.2.1, a0.2.2.2.1, a0.2.2.2.2.1, ()) (1048576 : Int)).bind fun y1 => (cond (decide (y1 < (0 : Int))) ((some true)) ((laws_toRopeway (a0.1, a0.2.1, a0.2.2.1, a0.2.2.2.1, a0.2.2.2.2.1, ())).bind fun y2 => ((spec_OpenDoors (y2.1, y2.2.1, y2.2.2.1, y2.2.2.2.1, y2.2.2.2.2.1, ())).bind fun y3 => ((laws_toRopeway (a0.1, a0.2.1, a0.2.2.1, a0.2.2.2.1, a0.2.2.2.2.1, ())).bind fun y4 => ((impl_OpenDoors (y4.1, y4.2.1, y4.2.2.1, y4.2.2.2.1, y4.2.2.2.2.1, ())).bind (Sum.elim (fun y6 => ((laws_eqIntS [] y3.1).bind fun y7 => (cond (!y7) ((some false)) (cond (!(false == y3.2)) ((some false)) ((laws_toRopeway (a0.1, a0.2.1, a0.2.2.1, a0.2.2.2.1, a0.2.2.2.2.1, ())).bind fun y8 => ((laws_eqRopeway (y4.1, y4.2.1, y4.2.2.1, y4.2.2.2.1, y4.2.2.2.2.1, ()) (y8.1, y8.2.1, y8.2.2.1, y8.2.2.2.1, y8.2.2.2.2.1, ())).bind fun y9 => (cond (!y9) ((some false)) ((laws_markRopeway (y4.1, y4.2.1, y4.2.2.1, y4.2.2.2.1, y4.2.2.2.2.1, ()) (1 : Int)).bind fun y10 => (cond (decide (y10.1 < (0 : Int))) ((some false)) ((laws_eqIntS [] y3.1).bind fun y11 => (cond (!y11) ((some false)) (cond (!(false == y3.2)) ((some false)) ((laws_markIntS_i1 (1 : Int)).bind fun y12 => ((laws_heldIntS [] (1 : Int)).bind fun y13 => (cond (decide (y13 < (0 : Int))) ((some false)) (cond (!decide (y13 = y12)) ((some false)) (((laws_toRopeway (a0.1, a0.2.1, a0.2.2.1, a0.2.2.2.1, a0.2.2.2.2.1, ())).bind fun y14 => ((impl_OpenDoors (y14.1, y14.2.1, y14.2.2.1, y14.2.2.2.1, y14.2.2.2.2.1, ())).bind (Sum.elim (fun y16 => (some ((Tg.mk : Tg 1), y3.2, y12, [], false, y3.1))) (fun y17 => (some ((Tg.mk : Tg 1), y3.2, y12, y17, true, y3.1)))))).bind fun z18 => ((laws_eqIntS z18.2.2.2.1 z18.2.2.2.2.2).bind fun y19 => (cond (!y19) ((some false)) (cond (!(z18.2.2.2.2.1 == z18.2.1)) ((some false)) ((laws_heldIntS [] (1 : Int)).bind fun y20 => (cond (decide (y20 < (0 : Int))) ((some false)) (cond (!decide (y20 = z18.2.2.1)) ((some false)) ((some true))))))))))))))))))))))))) (fun y21 => ((laws_eqIntS y21 y3.1).bind fun y22 => (cond (!y22) ((some false)) (cond (!(true == y3.2)) ((some false)) ((laws_toRopeway (a0.1, a0.2.1, a0.2.2.1, a0.2.2.2.1, a0.2.2.2.2.1, ())).bind fun y23 => ((laws_eqRopeway (y4.1, y4.2.1, y4.2.2.1, y4.2.2.2.1, y4.2.2.2.2.1, ()) (y23.1, y23.2.1, y23.2.2.1, y23.2.2.2.1, y23.2.2.2.2.1, ())).bind fun y24 => (cond (!y24) ((some false)) ((laws_markRopeway (y4.1, y4.2.1, y4.2.2.1, y4.2.2.2.1, y4.2.2.2.2.1, ()) (1 : Int)).bind fun y25 => (cond (decide (y25.1 < (0 : Int))) ((some false)) ((laws_eqIntS y21 y3.1).bind fun y26 => (cond (!y26) ((some false)) (cond (!(true == y3.2)) ((some false)) ((laws_markIntS y21 (1 : Int)).bind fun y27 => ((laws_heldIntS y27.2 (1 : Int)).bind fun y28 => (cond (decide (y28 < (0 : Int))) ((some false)) (cond (!decide (y28 = y27.1)) ((some false)) (((laws_toRopeway (a0.1, a0.2.1, a0.2.2.1, a0.2.2.2.1, a0.2.2.2.2.1, ())).bind fun y29 => ((impl_OpenDoors (y29.1, y29.2.1, y29.2.2.1, y29.2.2.2.1, y29.2.2.2.2.1, ())).bind (Sum.elim (fun y31 => (some ((Tg.mk : Tg 2), y3.2, y27.1, [], false, y3.1, y27.2))) (fun y32 => (some ((Tg.mk : Tg 2), y3.2, y27.1, y32, true, y3.1, y27.2)))))).bind fun z33 => ((laws_eqIntS z33.2.2.2.1 z33.2.2.2.2.2.1).bind fun y34 => (cond (!y34) ((some false)) (cond (!(z33.2.2.2.2.1 == z33.2.1)) ((some false)) ((laws_heldIntS z33.2.2.2.2.2.2 (1 : Int)).bind fun y35 => (cond (decide (y35 < (0 : Int))) ((some false)) (cond (!decide (y35 = z33.2.2.1)) ((some false)) ((some true))))))))))))))))))))))))))))))))
def laws_FnExactOpenDoors.res (_ : Ropeway) (y : Bool) : AV := (.bl y)
def laws_FnExactOpenDoors.out (_ : Ropeway) (_ : Bool) : List (Option LB) := []
def laws_FnExactOpenDoors.S (ar : List AV) (h : List (Option LB)) (r : AV) (h1 : List (Option LB)) : Prop := ∃ a0 y, laws_FnExactOpenDoors a0 = some y ∧ leL ar [(.agg [(.v (.int .i64 a0.1)), (.tree ty_Slot a0.2.1), (.v (.int .i64 a0.2.2.1)), (.v (.int .i64 a0.2.2.2.1)), (.v (.int .i64 a0.2.2.2.2.1))])] ∧ leH h [] ∧ r = laws_FnExactOpenDoors.res a0 y ∧ h1 = laws_FnExactOpenDoors.out a0 y
theorem laws_FnExactOpenDoors.call {ar : List AV} {h : List (Option LB)} {a0 : Ropeway} {y : Bool} (H : laws_FnExactOpenDoors a0 = some y) (h0 : leLk ar [(.agg [(.v (.int .i64 a0.1)), (.tree ty_Slot a0.2.1), (.v (.int .i64 a0.2.2.1)), (.v (.int .i64 a0.2.2.2.1)), (.v (.int .i64 a0.2.2.2.2.1))])] (leHk h [])) : laws_FnExactOpenDoors.S ar h (laws_FnExactOpenDoors.res a0 y) (laws_FnExactOpenDoors.out a0 y) := ⟨a0, y, H, (args_ok h0).1, (args_ok h0).2, rfl, rfl⟩
set_option maxHeartbeats 100000000 in
set_option maxRecDepth 100000 in
theorem laws_FnExactOpenDoors.spec (a0 : Ropeway) (y : Bool) (H : laws_FnExactOpenDoors a0 = some y) : Spec Try.prog 10 [(.agg [(.v (.int .i64 a0.1)), (.tree ty_Slot a0.2.1), (.v (.int .i64 a0.2.2.1)), (.v (.int .i64 a0.2.2.2.1)), (.v (.int .i64 a0.2.2.2.2.1))])] [] (laws_FnExactOpenDoors.res a0 y) (laws_FnExactOpenDoors.out a0 y) := by
  refine spec_intro G26_ok (ct := [(25, none), (6, some [1, 4, 5, 37, 38, 39, 52, 53, 54, 55, 58, 59, 60, 84, 85, 86]), (9, some [1, 4, 5, 6, 7, 8, 40, 52, 53, 54, 55, 58, 59, 60, 84, 85, 86]), (15, some [1, 4, 5, 7, 61, 84, 85, 86]), (22, some [1, 4, 5, 7, 10, 11, 84, 85, 86]), (29, some [10, 11])]) Try.func10 rfl (by kernel_rfl) (by kernel_rfl) rfl ?_
  repeat' first
    | ((with_reducible refine eqg ?_); exact rfl)
    | ((with_reducible refine KOb.mk ?_); kernel_rfl)
    | ((with_reducible intro h); (repeat (first | replace H := grd_k H | replace H := out_step H (by assumption))); first | replace H := cond_t h H | replace H := cond_f h H | exact absurd h (by decide) | skip)
    | ((with_reducible refine Ob.mk ?_); first | rfl | (repeat (first | exact grd_p H | replace H := grd_k H | replace H := out_step H (by assumption))))
    | (with_reducible exact True.intro)
    | constructor
    | ((conv => whnf); first
        | ((with_reducible refine Ob.mk ?_); first | rfl | (repeat (first | exact grd_p H | replace H := grd_k H | replace H := out_step H (by assumption))))
        | ((with_reducible refine CallW.mk ?_); (repeat (first | replace H := grd_k H | replace H := out_step H (by assumption))); replace H := bind_some H; obtain ⟨y, hy, H⟩ := H; first | ((with_reducible have hz : laws_szRopeway _ _ = some y := hy); clear hz; refine Exists.intro _ (Exists.intro _ ⟨laws_szRopeway.call hy ?_, rfl, rfl, ?_⟩)) | ((with_reducible have hz : laws_toRopeway _ = some y := hy); clear hz; refine Exists.intro _ (Exists.intro _ ⟨laws_toRopeway.call hy ?_, rfl, rfl, ?_⟩)) | ((with_reducible have hz : spec_OpenDoors _ = some y := hy); clear hz; refine Exists.intro _ (Exists.intro _ ⟨spec_OpenDoors.call hy ?_, rfl, rfl, ?_⟩)) | ((with_reducible have hz : impl_OpenDoors _ = some y := hy); clear hz; rcases y with y | y <;> refine Exists.intro _ (Exists.intro _ ⟨impl_OpenDoors.call hy ?_, rfl, rfl, ?_⟩)) | ((with_reducible have hz : laws_eqIntS _ _ = some y := hy); clear hz; refine Exists.intro _ (Exists.intro _ ⟨laws_eqIntS.call hy ?_, rfl, rfl, ?_⟩)) | ((with_reducible have hz : laws_eqRopeway _ _ = some y := hy); clear hz; refine Exists.intro _ (Exists.intro _ ⟨laws_eqRopeway.call hy ?_, rfl, rfl, ?_⟩)) | ((with_reducible have hz : laws_markRopeway _ _ = some y := hy); clear hz; refine Exists.intro _ (Exists.intro _ ⟨laws_markRopeway.call hy ?_, rfl, rfl, ?_⟩)) | ((with_reducible have hz : laws_markIntS_i1 _ = some y := hy); clear hz; refine Exists.intro _ (Exists.intro _ ⟨Or.inl (laws_markIntS_i1.call hy ?_), rfl, rfl, ?_⟩)) | ((with_reducible have hz : laws_heldIntS _ _ = some y := hy); clear hz; refine Exists.intro _ (Exists.intro _ ⟨laws_heldIntS.call hy ?_, rfl, rfl, ?_⟩)) | ((with_reducible have hz : laws_markIntS _ _ = some y := hy); clear hz; refine Exists.intro _ (Exists.intro _ ⟨Or.inr (laws_markIntS.call hy ?_), rfl, rfl, ?_⟩)))
        | ((with_reducible refine cutAt (id := 25) ?_); (repeat (first | replace H := grd_k H | replace H := out_step H (by assumption))); first | (replace H := bind_some H; obtain ⟨z, hz, H⟩ := H; have hT : Tg 1 × Bool × Int × (List Int) × Bool × (List Int) := z; clear hT; refine CutC.mk (id := 25) ⟨sl [(4, (.own 0)), (5, (.bl z.2.1)), (7, (.v (.slice none 0 0))), (10, (.v (.int .i64 z.2.2.1))), (12, (.tree (.int .i64) z.2.2.2.1)), (13, (.bl z.2.2.2.2.1))], [some (.arr 3 (.int .i64) z.2.2.2.2.2)]⟩ ?_ ?_; (replace H := hz)) | (replace H := bind_some H; obtain ⟨z, hz, H⟩ := H; have hT : Tg 2 × Bool × Int × (List Int) × Bool × (List Int) × (List Int) := z; clear hT; refine CutC.mk (id := 25) ⟨sl [(4, (.own 0)), (5, (.bl z.2.1)), (7, (.own 1)), (10, (.v (.int .i64 z.2.2.1))), (12, (.tree (.int .i64) z.2.2.2.1)), (13, (.bl z.2.2.2.2.1))], [some (.arr 3 (.int .i64) z.2.2.2.2.2.1), some (.arr 3 (.int .i64) z.2.2.2.2.2.2)]⟩ ?_ ?_; (replace H := hz)))
        | ((repeat (first | replace H := grd_k H | replace H := out_step H (by assumption))); have H := Option.some.inj H; subst H; with_reducible refine sub_auto ?_)
        | ((with_reducible refine fin_mk ?_); (repeat (first | replace H := grd_k H | replace H := out_step H (by assumption))); have H := Option.some.inj H; subst H))
def G27 : Env := G26.add 10 [] laws_FnExactOpenDoors.S
theorem G27_ok : EnvOk Try.prog G27 := G26_ok.add ent_10 fun ar h r h1 ⟨a0, y, hy, e1, e2, e3, e4⟩ => by
  subst e3 e4; exact (laws_FnExactOpenDoors.spec a0 y hy).le e1 e2
attribute [local irreducible] laws_FnExactOpenDoors

noncomputable def spec_NewRopeway (a0 : Int) (a1 : Int) : Option ((Ropeway) ⊕ (Ropeway)) :=
  ((spec_l1In a0 (4 : Int) (10 : Int)).bind fun y1 => (cond (!y1) ((some (Sum.inl ((0 : Int), [], (0 : Int), (0 : Int), (0 : Int), ())))) (grd (0 ≤ a0 ∧ a0 ≤ a0 ∧ (24 : Int) * a0 ≤ 140737488355328 ∧ a0 ≤ 140737488355328) ((spec_l25Good ((0 : Int), (List.replicate a0.toNat ((0 : Int), false, (0 : Int), ())), a1, (0 : Int), (0 : Int), ())).bind fun y2 => (cond (!y2) ((some (Sum.inl ((0 : Int), [], (0 : Int), (0 : Int), (0 : Int), ())))) ((some (Sum.inr ((0 : Int), (List.replicate a0.toNat ((0 : Int), false, (0 : Int), ())), a1, (0 : Int), (0 : Int), ())))))))))
def spec_NewRopeway.res (_ : Int) (_ : Int) (y : (Ropeway) ⊕ (Ropeway)) : AV := match y with
  | (.inl y) => (.tup [(.agg [(.v (.int .i64 y.1)), (.v (.slice none 0 0)), (.v (.int .i64 y.2.2.1)), (.v (.int .i64 y.2.2.2.1)), (.v (.int .i64 y.2.2.2.2.1))]), (.v (.bool false))])
  | (.inr y) => (.tup [(.agg [(.v (.int .i64 y.1)), (.own 0), (.v (.int .i64 y.2.2.1)), (.v (.int .i64 y.2.2.2.1)), (.v (.int .i64 y.2.2.2.2.1))]), (.v (.bool true))])
def spec_NewRopeway.out (_ : Int) (_ : Int) (y : (Ropeway) ⊕ (Ropeway)) : List (Option LB) := match y with
  | (.inl y) => []
  | (.inr y) => [some (.arr 47 ty_Slot y.2.1)]
def spec_NewRopeway.S (ar : List AV) (h : List (Option LB)) (r : AV) (h1 : List (Option LB)) : Prop := ∃ a0 a1 y, spec_NewRopeway a0 a1 = some y ∧ leL ar [(.v (.int .i64 a0)), (.v (.int .i64 a1))] ∧ leH h [] ∧ r = spec_NewRopeway.res a0 a1 y ∧ h1 = spec_NewRopeway.out a0 a1 y
theorem spec_NewRopeway.call {ar : List AV} {h : List (Option LB)} {a0 : Int} {a1 : Int} {y : (Ropeway) ⊕ (Ropeway)} (H : spec_NewRopeway a0 a1 = some y) (h0 : leLk ar [(.v (.int .i64 a0)), (.v (.int .i64 a1))] (leHk h [])) : spec_NewRopeway.S ar h (spec_NewRopeway.res a0 a1 y) (spec_NewRopeway.out a0 a1 y) := ⟨a0, a1, y, H, (args_ok h0).1, (args_ok h0).2, rfl, rfl⟩
set_option maxHeartbeats 100000000 in
set_option maxRecDepth 100000 in
theorem spec_NewRopeway.spec (a0 : Int) (a1 : Int) (y : (Ropeway) ⊕ (Ropeway)) (H : spec_NewRopeway a0 a1 = some y) : Spec Try.prog 31 [(.v (.int .i64 a0)), (.v (.int .i64 a1))] [] (spec_NewRopeway.res a0 a1 y) (spec_NewRopeway.out a0 a1 y) := by
  have hlen : Nat.ble ([] : List (Option LB)).length (spec_NewRopeway.out a0 a1 y).length = true := by
    rcases y with y | y <;> rfl
  refine spec_intro G27_ok (ct := [(5, some [4, 6, 17])]) Try.func31 rfl (by kernel_rfl) (by kernel_rfl) hlen ?_
  repeat' first
    | ((with_reducible refine eqg ?_); exact rfl)
    | ((with_reducible refine KOb.mk ?_); kernel_rfl)
    | ((with_reducible intro h); (repeat (first | replace H := grd_k H | replace H := out_step H (by assumption))); first | replace H := cond_t h H | replace H := cond_f h H | exact absurd h (by decide) | skip)
    | ((with_reducible refine Ob.mk ?_); first | rfl | (repeat (first | exact grd_p H | replace H := grd_k H | replace H := out_step H (by assumption))))
    | (with_reducible exact True.intro)
    | constructor
    | ((conv => whnf); first
        | ((with_reducible refine Ob.mk ?_); first | rfl | (repeat (first | exact grd_p H | replace H := grd_k H | replace H := out_step H (by assumption))))
        | ((with_reducible refine CallW.mk ?_); (repeat (first | replace H := grd_k H | replace H := out_step H (by assumption))); replace H := bind_some H; obtain ⟨y, hy, H⟩ := H; first | ((with_reducible have hz : spec_l1In _ _ _ = some y := hy); clear hz; refine Exists.intro _ (Exists.intro _ ⟨spec_l1In.call hy ?_, rfl, rfl, ?_⟩)) | ((with_reducible have hz : spec_l25Good _ = some y := hy); clear hz; refine Exists.intro _ (Exists.intro _ ⟨spec_l25Good.call hy ?_, rfl, rfl, ?_⟩)))
        | ((with_reducible refine fin_mk ?_); (repeat (first | replace H := grd_k H | replace H := out_step H (by assumption))); have H := Option.some.inj H; subst H))
def G28 : Env := G27.add 31 [] spec_NewRopeway.S
theorem G28_ok : EnvOk Try.prog G28 := G27_ok.add ent_31 fun ar h r h1 ⟨a0, a1, y, hy, e1, e2, e3, e4⟩ => by
  subst e3 e4; exact (spec_NewRopeway.spec a0 a1 y hy).le e1 e2
attribute [local irreducible] spec_NewRopeway

noncomputable def impl_NewRopeway (a0 : Int) (a1 : Int) : Option ((Ropeway) ⊕ (Ropeway)) :=
  ((impl_within a0 (4 : Int) (10 : Int)).bind fun y1 => (cond (!y1) ((some (Sum.inl ((0 : Int), [], (0 : Int), (0 : Int), (0 : Int), ())))) (grd (0 ≤ a0 ∧ a0 ≤ a0 ∧ (24 : Int) * a0 ≤ 140737488355328 ∧ a0 ≤ 140737488355328) ((impl_IsRopeway ((0 : Int), (List.replicate a0.toNat ((0 : Int), false, (0 : Int), ())), a1, (0 : Int), (0 : Int), ())).bind fun y2 => (cond (!y2) ((some (Sum.inl ((0 : Int), [], (0 : Int), (0 : Int), (0 : Int), ())))) ((some (Sum.inr ((0 : Int), (List.replicate a0.toNat ((0 : Int), false, (0 : Int), ())), a1, (0 : Int), (0 : Int), ())))))))))
def impl_NewRopeway.res (_ : Int) (_ : Int) (y : (Ropeway) ⊕ (Ropeway)) : AV := match y with
  | (.inl y) => (.tup [(.agg [(.v (.int .i64 y.1)), (.v (.slice none 0 0)), (.v (.int .i64 y.2.2.1)), (.v (.int .i64 y.2.2.2.1)), (.v (.int .i64 y.2.2.2.2.1))]), (.v (.bool false))])
  | (.inr y) => (.tup [(.agg [(.v (.int .i64 y.1)), (.own 0), (.v (.int .i64 y.2.2.1)), (.v (.int .i64 y.2.2.2.1)), (.v (.int .i64 y.2.2.2.2.1))]), (.v (.bool true))])
def impl_NewRopeway.out (_ : Int) (_ : Int) (y : (Ropeway) ⊕ (Ropeway)) : List (Option LB) := match y with
  | (.inl y) => []
  | (.inr y) => [some (.arr 47 ty_Slot y.2.1)]
def impl_NewRopeway.S (ar : List AV) (h : List (Option LB)) (r : AV) (h1 : List (Option LB)) : Prop := ∃ a0 a1 y, impl_NewRopeway a0 a1 = some y ∧ leL ar [(.v (.int .i64 a0)), (.v (.int .i64 a1))] ∧ leH h [] ∧ r = impl_NewRopeway.res a0 a1 y ∧ h1 = impl_NewRopeway.out a0 a1 y
theorem impl_NewRopeway.call {ar : List AV} {h : List (Option LB)} {a0 : Int} {a1 : Int} {y : (Ropeway) ⊕ (Ropeway)} (H : impl_NewRopeway a0 a1 = some y) (h0 : leLk ar [(.v (.int .i64 a0)), (.v (.int .i64 a1))] (leHk h [])) : impl_NewRopeway.S ar h (impl_NewRopeway.res a0 a1 y) (impl_NewRopeway.out a0 a1 y) := ⟨a0, a1, y, H, (args_ok h0).1, (args_ok h0).2, rfl, rfl⟩
set_option maxHeartbeats 100000000 in
set_option maxRecDepth 100000 in
theorem impl_NewRopeway.spec (a0 : Int) (a1 : Int) (y : (Ropeway) ⊕ (Ropeway)) (H : impl_NewRopeway a0 a1 = some y) : Spec Try.prog 30 [(.v (.int .i64 a0)), (.v (.int .i64 a1))] [] (impl_NewRopeway.res a0 a1 y) (impl_NewRopeway.out a0 a1 y) := by
  have hlen : Nat.ble ([] : List (Option LB)).length (impl_NewRopeway.out a0 a1 y).length = true := by
    rcases y with y | y <;> rfl
  refine spec_intro G28_ok (ct := [(5, some [4, 6, 17])]) Try.func30 rfl (by kernel_rfl) (by kernel_rfl) hlen ?_
  repeat' first
    | ((with_reducible refine eqg ?_); exact rfl)
    | ((with_reducible refine KOb.mk ?_); kernel_rfl)
    | ((with_reducible intro h); (repeat (first | replace H := grd_k H | replace H := out_step H (by assumption))); first | replace H := cond_t h H | replace H := cond_f h H | exact absurd h (by decide) | skip)
    | ((with_reducible refine Ob.mk ?_); first | rfl | (repeat (first | exact grd_p H | replace H := grd_k H | replace H := out_step H (by assumption))))
    | (with_reducible exact True.intro)
    | constructor
    | ((conv => whnf); first
        | ((with_reducible refine Ob.mk ?_); first | rfl | (repeat (first | exact grd_p H | replace H := grd_k H | replace H := out_step H (by assumption))))
        | ((with_reducible refine CallW.mk ?_); (repeat (first | replace H := grd_k H | replace H := out_step H (by assumption))); replace H := bind_some H; obtain ⟨y, hy, H⟩ := H; first | ((with_reducible have hz : impl_within _ _ _ = some y := hy); clear hz; refine Exists.intro _ (Exists.intro _ ⟨impl_within.call hy ?_, rfl, rfl, ?_⟩)) | ((with_reducible have hz : impl_IsRopeway _ = some y := hy); clear hz; refine Exists.intro _ (Exists.intro _ ⟨impl_IsRopeway.call hy ?_, rfl, rfl, ?_⟩)))
        | ((with_reducible refine fin_mk ?_); (repeat (first | replace H := grd_k H | replace H := out_step H (by assumption))); have H := Option.some.inj H; subst H))
def G29 : Env := G28.add 30 [] impl_NewRopeway.S
theorem G29_ok : EnvOk Try.prog G29 := G28_ok.add ent_30 fun ar h r h1 ⟨a0, a1, y, hy, e1, e2, e3, e4⟩ => by
  subst e3 e4; exact (impl_NewRopeway.spec a0 a1 y hy).le e1 e2
attribute [local irreducible] impl_NewRopeway

noncomputable def laws_heldSlotS_loop1 (a0 : (List Slot)) (v3 : Int) (v4 : Int) : Option (Lp (Int × Int) ((Unit) ⊕ (Int))) :=
  (cond (decide (v4 < (a0.length : Int))) (grd (0 ≤ v4 ∧ v4 < (a0.length : Int)) (cond (!decide (((a0.getD v4.toNat d_Slot).1) = v3)) ((some (.out (Sum.inl ())))) (grd (0 ≤ v4 ∧ v4 < (a0.length : Int)) (grd ((3 : Int) ≠ 0) (cond (!(((a0.getD v4.toNat d_Slot).2.1) == (decide ((Int.tmod (w64 (v3 + (1 : Int))) (3 : Int)) = (0 : Int))))) ((some (.out (Sum.inl ())))) (grd (0 ≤ v4 ∧ v4 < (a0.length : Int)) (cond (!decide (((a0.getD v4.toNat d_Slot).2.2.1) = (w64 ((w64 (v3 + (1 : Int))) + (1 : Int))))) ((some (.out (Sum.inl ())))) (some (.go ((w64 ((w64 ((w64 (v3 + (1 : Int))) + (1 : Int))) + (1 : Int))), (w64 (v4 + (1 : Int))))))))))))) ((some (.out (Sum.inr v3)))))
noncomputable def laws_heldSlotS (a0 : (List Slot)) (a1 : Int) : Option (Int) :=
  ((iter (fun s => laws_heldSlotS_loop1 a0 s.1 s.2) (a1, (0 : Int))).bind (Sum.elim (fun r6 => (some ((-1) : Int))) (fun r7 => (some r7))))
def laws_heldSlotS.res (_ : (List Slot)) (_ : Int) (y : Int) : AV := (.v (.int .i64 y))
def laws_heldSlotS.out (_ : (List Slot)) (_ : Int) (_ : Int) : List (Option LB) := []
def laws_heldSlotS.S (ar : List AV) (h : List (Option LB)) (r : AV) (h1 : List (Option LB)) : Prop := ∃ a0 a1 y, laws_heldSlotS a0 a1 = some y ∧ leL ar [(.tree ty_Slot a0), (.v (.int .i64 a1))] ∧ leH h [] ∧ r = laws_heldSlotS.res a0 a1 y ∧ h1 = laws_heldSlotS.out a0 a1 y
theorem laws_heldSlotS.call {ar : List AV} {h : List (Option LB)} {a0 : (List Slot)} {a1 : Int} {y : Int} (H : laws_heldSlotS a0 a1 = some y) (h0 : leLk ar [(.tree ty_Slot a0), (.v (.int .i64 a1))] (leHk h [])) : laws_heldSlotS.S ar h (laws_heldSlotS.res a0 a1 y) (laws_heldSlotS.out a0 a1 y) := ⟨a0, a1, y, H, (args_ok h0).1, (args_ok h0).2, rfl, rfl⟩
set_option maxHeartbeats 100000000 in
set_option maxRecDepth 100000 in
theorem laws_heldSlotS.spec (a0 : (List Slot)) (a1 : Int) (y : Int) (H : laws_heldSlotS a0 a1 = some y) : Spec Try.prog 78 [(.tree ty_Slot a0), (.v (.int .i64 a1))] [] (laws_heldSlotS.res a0 a1 y) (laws_heldSlotS.out a0 a1 y) := by
  refine spec_intro G29_ok (ct := [(7, some [0, 1, 5]), (11, some [0, 1, 5, 38])]) Try.func78 rfl (by kernel_rfl) (by kernel_rfl) rfl ?_
  repeat' first
    | ((with_reducible refine eqg ?_); exact rfl)
    | ((with_reducible refine KOb.mk ?_); kernel_rfl)
    | ((with_reducible intro h); (repeat (first | replace H := grd_k H | replace H := out_step H (by assumption))); first | replace H := cond_t h H | replace H := cond_f h H | exact absurd h (by decide) | skip)
    | ((with_reducible refine Ob.mk ?_); first | rfl | (repeat (first | exact grd_p H | replace H := grd_k H | replace H := out_step H (by assumption))))
    | (with_reducible exact True.intro)
    | constructor
    | ((conv => whnf); first
        | ((with_reducible refine Ob.mk ?_); first | rfl | (repeat (first | exact grd_p H | replace H := grd_k H | replace H := out_step H (by assumption))))
        | ((repeat (first | replace H := grd_k H | replace H := out_step H (by assumption))); refine loop_iter G29_ok (ct := [(7, some [0, 1, 5]), (11, some [0, 1, 5, 38])]) (F := (fun s1 : Int × Int => ⟨sl [(0, (.tree ty_Slot a0)), (1, (.v (.int .i64 s1.1))), (5, (.v (.int .i64 s1.2)))], []⟩)) (step := (fun s : Int × Int => laws_heldSlotS_loop1 _ s.1 s.2)) _ H (by kernel_rfl) (sub_auto ?_) ?_; rotate_left; (intro s1 r v hr H); rotate_right)
        | ((repeat (first | replace H := grd_k H | replace H := out_step H (by assumption))); refine again_step H (by assumption) (sub_auto ?_))
        | ((with_reducible refine fin_mk ?_); (repeat (first | replace H := grd_k H | replace H := out_step H (by assumption))); have H := Option.some.inj H; subst H))
def G30 : Env := G29.add 78 [] laws_heldSlotS.S
theorem G30_ok : EnvOk Try.prog G30 := G29_ok.add ent_78 fun ar h r h1 ⟨a0, a1, y, hy, e1, e2, e3, e4⟩ => by
  subst e3 e4; exact (laws_heldSlotS.spec a0 a1 y hy).le e1 e2
attribute [local irreducible] laws_heldSlotS

noncomputable def laws_heldRopeway (a0 : Ropeway) (a1 : Int) : Option (Int) :=
  ((laws_heldSlotS a0.2.1 a1).bind fun y1 => (cond (decide (y1 < (0 : Int))) ((some ((-1) : Int))) ((some y1))))
def laws_heldRopeway.res (_ : Ropeway) (_ : Int) (y : Int) : AV := (.v (.int .i64 y))
def laws_heldRopeway.out (_ : Ropeway) (_ : Int) (_ : Int) : List (Option LB) := []
def laws_heldRopeway.S (ar : List AV) (h : List (Option LB)) (r : AV) (h1 : List (Option LB)) : Prop := ∃ a0 a1 y, laws_heldRopeway a0 a1 = some y ∧ leL ar [(.agg [(.v (.int .i64 a0.1)), (.tree ty_Slot a0.2.1), (.v (.int .i64 a0.2.2.1)), (.v (.int .i64 a0.2.2.2.1)), (.v (.int .i64 a0.2.2.2.2.1))]), (.v (.int .i64 a1))] ∧ leH h [] ∧ r = laws_heldRopeway.res a0 a1 y ∧ h1 = laws_heldRopeway.out a0 a1 y
theorem laws_heldRopeway.call {ar : List AV} {h : List (Option LB)} {a0 : Ropeway} {a1 : Int} {y : Int} (H : laws_heldRopeway a0 a1 = some y) (h0 : leLk ar [(.agg [(.v (.int .i64 a0.1)), (.tree ty_Slot a0.2.1), (.v (.int .i64 a0.2.2.1)), (.v (.int .i64 a0.2.2.2.1)), (.v (.int .i64 a0.2.2.2.2.1))]), (.v (.int .i64 a1))] (leHk h [])) : laws_heldRopeway.S ar h (laws_heldRopeway.res a0 a1 y) (laws_heldRopeway.out a0 a1 y) := ⟨a0, a1, y, H, (args_ok h0).1, (args_ok h0).2, rfl, rfl⟩
set_option maxHeartbeats 100000000 in
set_option maxRecDepth 100000 in
theorem laws_heldRopeway.spec (a0 : Ropeway) (a1 : Int) (y : Int) (H : laws_heldRopeway a0 a1 = some y) : Spec Try.prog 33 [(.agg [(.v (.int .i64 a0.1)), (.tree ty_Slot a0.2.1), (.v (.int .i64 a0.2.2.1)), (.v (.int .i64 a0.2.2.2.1)), (.v (.int .i64 a0.2.2.2.2.1))]), (.v (.int .i64 a1))] [] (laws_heldRopeway.res a0 a1 y) (laws_heldRopeway.out a0 a1 y) := by
  refine spec_intro G30_ok (ct := []) Try.func33 rfl (by kernel_rfl) (by kernel_rfl) rfl ?_
  repeat' first
    | ((with_reducible refine eqg ?_); exact rfl)
    | ((with_reducible refine KOb.mk ?_); kernel_rfl)
    | ((with_reducible intro h); (repeat (first | replace H := grd_k H | replace H := out_step H (by assumption))); first | replace H := cond_t h H | replace H := cond_f h H | exact absurd h (by decide) | skip)
    | ((with_reducible refine Ob.mk ?_); first | rfl | (repeat (first | exact grd_p H | replace H := grd_k H | replace H := out_step H (by assumption))))
    | (with_reducible exact True.intro)
    | constructor
    | ((conv => whnf); first
        | ((with_reducible refine Ob.mk ?_); first | rfl | (repeat (first | exact grd_p H | replace H := grd_k H | replace H := out_step H (by assumption))))
        | ((with_reducible refine CallW.mk ?_); (repeat (first | replace H := grd_k H | replace H := out_step H (by assumption))); replace H := bind_some H; obtain ⟨y, hy, H⟩ := H; first | ((with_reducible have hz : laws_heldSlotS _ _ = some y := hy); clear hz; refine Exists.intro _ (Exists.intro _ ⟨laws_heldSlotS.call hy ?_, rfl, rfl, ?_⟩)))
        | ((with_reducible refine fin_mk ?_); (repeat (first | replace H := grd_k H | replace H := out_step H (by assumption))); have H := Option.some.inj H; subst H))
def G31 : Env := G30.add 33 [] laws_heldRopeway.S
theorem G31_ok : EnvOk Try.prog G31 := G30_ok.add ent_33 fun ar h r h1 ⟨a0, a1, y, hy, e1, e2, e3, e4⟩ => by
  subst e3 e4; exact (laws_heldRopeway.spec a0 a1 y hy).le e1 e2
attribute [local irreducible] laws_heldRopeway

noncomputable def laws_markSlotS_i1_loop1   : Option (Lp (Unit) ((Unit))) :=
  (some (.out ()))
noncomputable def laws_markSlotS_i1 (a1 : Int) : Option (Int) :=
  ((iter (fun s => laws_markSlotS_i1_loop1) ()).bind (fun r1 => (some a1)))
def laws_markSlotS_i1.res (_ : Int) (y : Int) : AV := (.v (.int .i64 y))
def laws_markSlotS_i1.out (_ : Int) (_ : Int) : List (Option LB) := []
def laws_markSlotS_i1.S (ar : List AV) (h : List (Option LB)) (r : AV) (h1 : List (Option LB)) : Prop := ∃ a1 y, laws_markSlotS_i1 a1 = some y ∧ leL ar [(.v (.slice none 0 0)), (.v (.int .i64 a1))] ∧ leH h [] ∧ r = laws_markSlotS_i1.res a1 y ∧ h1 = laws_markSlotS_i1.out a1 y
theorem laws_markSlotS_i1.call {ar : List AV} {h : List (Option LB)} {a1 : Int} {y : Int} (H : laws_markSlotS_i1 a1 = some y) (h0 : leLk ar [(.v (.slice none 0 0)), (.v (.int .i64 a1))] (leHk h [])) : laws_markSlotS_i1.S ar h (laws_markSlotS_i1.res a1 y) (laws_markSlotS_i1.out a1 y) := ⟨a1, y, H, (args_ok h0).1, (args_ok h0).2, rfl, rfl⟩
set_option maxHeartbeats 100000000 in
set_option maxRecDepth 100000 in
theorem laws_markSlotS_i1.spec (a1 : Int) (y : Int) (H : laws_markSlotS_i1 a1 = some y) : Spec Try.prog 77 [(.v (.slice none 0 0)), (.v (.int .i64 a1))] [] (laws_markSlotS_i1.res a1 y) (laws_markSlotS_i1.out a1 y) := by
  refine spec_intro G31_ok (ct := [(7, some [0, 1, 5])]) Try.func77 rfl (by kernel_rfl) (by kernel_rfl) rfl ?_
  repeat' first
    | ((with_reducible refine eqg ?_); exact rfl)
    | ((with_reducible refine KOb.mk ?_); kernel_rfl)
    | ((with_reducible intro h); (repeat (first | replace H := grd_k H | replace H := out_step H (by assumption))); first | replace H := cond_t h H | replace H := cond_f h H | exact absurd h (by decide) | skip)
    | ((with_reducible refine Ob.mk ?_); first | rfl | (repeat (first | exact grd_p H | replace H := grd_k H | replace H := out_step H (by assumption))))
    | (with_reducible exact True.intro)
    | constructor
    | ((conv => whnf); first
        | ((with_reducible refine Ob.mk ?_); first | rfl | (repeat (first | exact grd_p H | replace H := grd_k H | replace H := out_step H (by assumption))))
        | ((repeat (first | replace H := grd_k H | replace H := out_step H (by assumption))); refine loop_iter G31_ok (ct := [(7, some [0, 1, 5])]) (F := (fun s1 : Unit => ⟨sl [(0, (.v (.slice none 0 0))), (1, (.v (.int .i64 a1))), (5, (.v (.int .i64 (0 : Int))))], []⟩)) (step := (fun s : Unit => laws_markSlotS_i1_loop1)) _ H (by kernel_rfl) (sub_auto ?_) ?_; rotate_left; (intro s1 r v hr H); rotate_right)
        | ((repeat (first | replace H := grd_k H | replace H := out_step H (by assumption))); refine again_step H (by assumption) (sub_auto ?_))
        | ((with_reducible refine fin_mk ?_); (repeat (first | replace H := grd_k H | replace H := out_step H (by assumption))); have H := Option.some.inj H; subst H))
def G32 : Env := G31.addOr 77 [true] laws_markSlotS_i1.S
theorem G32_ok : EnvOk Try.prog G32 := G31_ok.addOr ent_77 fun ar h r h1 ⟨a1, y, hy, e1, e2, e3, e4⟩ => by
  subst e3 e4; exact (laws_markSlotS_i1.spec a1 y hy).le e1 e2
attribute [local irreducible] laws_markSlotS_i1

noncomputable def laws_markRopeway_i1 (a100 : Int) (a101 : Int) (a102 : Int) (a103 : Int) (a1 : Int) : Option (Int) :=
  ((laws_markSlotS_i1 a1).bind fun y1 => (some y1))
def laws_markRopeway_i1.res (_ : Int) (_ : Int) (_ : Int) (_ : Int) (_ : Int) (y : Int) : AV := (.v (.int .i64 y))
def laws_markRopeway_i1.out (_ : Int) (_ : Int) (_ : Int) (_ : Int) (_ : Int) (_ : Int) : List (Option LB) := []
def laws_markRopeway_i1.S (ar : List AV) (h : List (Option LB)) (r : AV) (h1 : List (Option LB)) : Prop := ∃ a100 a101 a102 a103 a1 y, laws_markRopeway_i1 a100 a101 a102 a103 a1 = some y ∧ leL ar [(.agg [(.v (.int .i64 a100)), (.v (.slice none 0 0)), (.v (.int .i64 a101)), (.v (.int .i64 a102)), (.v (.int .i64 a103))]), (.v (.int .i64 a1))] ∧ leH h [] ∧ r = laws_markRopeway_i1.res a100 a101 a102 a103 a1 y ∧ h1 = laws_markRopeway_i1.out a100 a101 a102 a103 a1 y
theorem laws_markRopeway_i1.call {ar : List AV} {h : List (Option LB)} {a100 : Int} {a101 : Int} {a102 : Int} {a103 : Int} {a1 : Int} {y : Int} (H : laws_markRopeway_i1 a100 a101 a102 a103 a1 = some y) (h0 : leLk ar [(.agg [(.v (.int .i64 a100)), (.v (.slice none 0 0)), (.v (.int .i64 a101)), (.v (.int .i64 a102)), (.v (.int .i64 a103))]), (.v (.int .i64 a1))] (leHk h [])) : laws_markRopeway_i1.S ar h (laws_markRopeway_i1.res a100 a101 a102 a103 a1 y) (laws_markRopeway_i1.out a100 a101 a102 a103 a1 y) := ⟨a100, a101, a102, a103, a1, y, H, (args_ok h0).1, (args_ok h0).2, rfl, rfl⟩
set_option maxHeartbeats 100000000 in
set_option maxRecDepth 100000 in
theorem laws_markRopeway_i1.spec (a100 : Int) (a101 : Int) (a102 : Int) (a103 : Int) (a1 : Int) (y : Int) (H : laws_markRopeway_i1 a100 a101 a102 a103 a1 = some y) : Spec Try.prog 32 [(.agg [(.v (.int .i64 a100)), (.v (.slice none 0 0)), (.v (.int .i64 a101)), (.v (.int .i64 a102)), (.v (.int .i64 a103))]), (.v (.int .i64 a1))] [] (laws_markRopeway_i1.res a100 a101 a102 a103 a1 y) (laws_markRopeway_i1.out a100 a101 a102 a103 a1 y) := by
  refine spec_intro G32_ok (ct := []) Try.func32 rfl (by kernel_rfl) (by kernel_rfl) rfl ?_
  repeat' first
    | ((with_reducible refine eqg ?_); exact rfl)
    | ((with_reducible refine KOb.mk ?_); kernel_rfl)
    | ((with_reducible intro h); (repeat (first | replace H := grd_k H | replace H := out_step H (by assumption))); first | replace H := cond_t h H | replace H := cond_f h H | exact absurd h (by decide) | skip)
    | ((with_reducible refine Ob.mk ?_); first | rfl | (repeat (first | exact grd_p H | replace H := grd_k H | replace H := out_step H (by assumption))))
    | (with_reducible exact True.intro)
    | constructor
    | ((conv => whnf); first
        | ((with_reducible refine Ob.mk ?_); first | rfl | (repeat (first | exact grd_p H | replace H := grd_k H | replace H := out_step H (by assumption))))
        | ((with_reducible refine CallW.mk ?_); (repeat (first | replace H := grd_k H | replace H := out_step H (by assumption))); replace H := bind_some H; obtain ⟨y, hy, H⟩ := H; first | ((with_reducible have hz : laws_markSlotS_i1 _ = some y := hy); clear hz; refine Exists.intro _ (Exists.intro _ ⟨Or.inl (laws_markSlotS_i1.call hy ?_), rfl, rfl, ?_⟩)))
        | ((with_reducible refine fin_mk ?_); (repeat (first | replace H := grd_k H | replace H := out_step H (by assumption))); have H := Option.some.inj H; subst H))
def G33 : Env := G32.addOr 32 [true] laws_markRopeway_i1.S
theorem G33_ok : EnvOk Try.prog G33 := G32_ok.addOr ent_32 fun ar h r h1 ⟨a100, a101, a102, a103, a1, y, hy, e1, e2, e3, e4⟩ => by
  subst e3 e4; exact (laws_markRopeway_i1.spec a100 a101 a102 a103 a1 y hy).le e1 e2
attribute [local irreducible] laws_markRopeway_i1

noncomputable def laws_FnExactNewRopeway (a0 : Int) (a1 : Int) : Option (Bool) :=
  ((spec_NewRopeway a0 a1).bind (Sum.elim (fun y2 => ((impl_NewRopeway a0 a1).bind (Sum.elim (fun y4 => ((laws_eqRopeway (y4.1, [], y4.2.2.1, y4.2.2.2.1, y4.2.2.2.2.1, ()) (y2.1, [], y2.2.2.1, y2.2.2.2.1, y2.2.2.2.2.1, ())).bind fun y5 => (cond (!y5) ((some false)) (cond (!(false == false)) ((some false)) ((laws_markRopeway_i1 y4.1 y4.2.2.1 y4.2.2.2.1 y4.2.2.2.2.1 (1 : Int)).bind fun y6 => ((laws_heldRopeway (y4.1, [], y4.2.2.1, y4.2.2.2.1, y4.2.2.2.2.1, ()) (1 : Int)).bind fun y7 => (cond (decide (y7 < (0 : Int))) ((some false)) (cond (!decide (y7 = y6)) ((some false)) (((impl_NewRopeway a0 a1).bind (Sum.elim (fun y9 => (some ((Tg.mk : Tg 1), y6, false, y2.1, y2.2.2.1, y2.2.2.2.1, y2.2.2.2.2.1, y4.1, y4.2.2.1, y4.2.2.2.1, y4.2.2.2.2.1, y9.1, [], y9.2.2.1, y9.2.2.2.1, y9.2.2.2.2.1))) (fun y10 => (some ((Tg.mk : Tg 1), y6, true, y2.1, y2.2.2.1, y2.2.2.2.1, y2.2.2.2.2.1, y4.1, y4.2.2.1, y4.2.2.2.1, y4.2.2.2.2.1, y10.1, y10.2.1, y10.2.2.1, y10.2.2.2.1, y10.2.2.2.2.1))))).bind fun z11 => ((laws_eqRopeway (z11.2.2.2.2.2.2.2.2.2.2.2.1, z11.2.2.2.2.2.2.2.2.2.2.2.2.1, z11.2.2.2.2.2.2.2.2.2.2.2.2.2.1, z11.2.2.2.2.2.2.2.2.2.2.2.2.2.2.1, z11.2.2.2.2.2.2.2.2.2.2.2.2.2.2.2, ()) (z11.2.2.2.1, [], z11.2.2.2.2.1, z11.2.2.2.2.2.1, z11.2.2.2.2.2.2.1, ())).bind fun y12 => (cond (!y12) ((some false)) (cond (!(z11.2.2.1 == false)) ((some false)) ((laws_heldRopeway (z11.2.2.2.2.2.2.2.1, [], z11.2.2.2.2.2.2.2.2.1, z11.2.2.2.2.2.2.2.2.2.1, z11.2.2.2.2.2.2.2.2.2.2.1, ()) (1 : Int)).bind fun y13 => (cond (decide (y13 < (0 : Int))) ((some false)) (cond (!decide (y13 = z11.2.1)) ((some false)) ((some true))))))))))))))))) (fun y14 => ((laws_eqRopeway (y14.1, y14.2.1, y14.2.2.1, y14.2.2.2.1, y14.2.2.2.2.1, ()) (y2.1, [], y2.2.2.1, y2.2.2.2.1, y2.2.2.2.2.1, ())).bind fun y15 => (cond (!y15) ((some false)) (cond (!(true == false)) ((some false)) ((laws_markRopeway (y14.1, y14.2.1, y14.2.2.1, y14.2.2.2.1, y14.2.2.2.2.1, ()) (1 : Int)).bind fun y16 => ((laws_heldRopeway (y14.1, y16.2, y14.2.2.1, y14.2.2.2.1, y14.2.2.2.2.1, ()) (1 : Int)).bind fun y17 => (cond (decide (y17 < (0 : Int))) ((some false)) (cond (!decide (y17 = y16.1)) ((some false)) (((impl_NewRopeway a0 a1).bind (Sum.elim (fun y19 => (some ((Tg.mk : Tg 2), y16.1, false, y2.1, y2.2.2.1, y2.2.2.2.1, y2.2.2.2.2.1, y14.1, y14.2.2.1, y14.2.2.2.1, y14.2.2.2.2.1, y19.1, [], y19.2.2.1, y19.2.2.2.1, y19.2.2.2.2.1, y16.2))) (fun y20 => (some ((Tg.mk : Tg 2), y16.1, true, y2.1, y2.2.2.1, y2.2.2.2.1, y2.2.2.2.2.1, y14.1, y14.2.2.1, y14.2.2.2.1, y14.2.2.2.2.1, y20.1, y20.2.1, y20.2.2.1, y20.2.2.2.1, y20.2.2.2.2.1, y16.2))))).bind fun z21 => ((laws_eqRopeway (z21.2.2.2.2.2.2.2.2.2.2.2.1, z21.2.2.2.2.2.2.2.2.2.2.2.2.1, z21.2.2.2.2.2.2.2.2.2.2.2.2.2.1, z21.2.2.2.2.2.2.2.2.2.2.2.2.2.2.1, z21.2.2.2.2.2.2.2.2.2.2.2.2.2.2.2.1, ()) (z21.2.2.2.1, [], z21.2.2.2.2.1, z21.2.2.2.2.2.1, z21.2.2.2.2.2.2.1, ())).bind fun y22 => (cond (!y22) ((some false)) (cond (!(z21.2.2.1 == false)) ((some false)) ((laws_heldRopeway (z21.2.2.2.2.2.2.2.1, z21.2.2.2.2.2.2.2.2.2.2.2.2.2.2.2.2, z21.2.2.2.2.2.2.2.2.1, z21.2.2.2.2.2.2.2.2.2.1, z21.2.2.2.2.2.2.2.2.2.2.1, ()) (1 : Int)).bind fun y23 => (cond (decide (y23 < (0 : Int))) ((some false)) (cond (!decide (y23 = z21.2.1)) ((some false)) ((some true)))))))))))))))))))) (fun y24 => ((impl_NewRopeway a0 a1).bind (Sum.elim (fun y26 => ((laws_eqRopeway (y26.1, [], y26.2.2.1, y26.2.2.2.1, y26.2.2.2.2.1, ()) (y24.1, y24.2.1, y24.2.2.1, y24.2.2.2.1, y24.2.2.2.2.1, ())).bind fun y27 => (cond (!y27) ((some false)) (cond (!(false == true)) ((some false)) ((laws_markRopeway_i1 y26.1 y26.2.2.1 y26.2.2.2.1 y26.2.2.2.2.1 (1 : Int)).bind fun y28 => ((laws_heldRopeway (y26.1, [], y26.2.2.1, y26.2.2.2.1, y26.2.2.2.2.1, ()) (1 : Int)).bind fun y29 => (cond (decide (y29 < (0 : Int))) ((some false)) (cond (!decide (y29 = y28)) ((some false)) (((impl_NewRopeway a0 a1).bind (Sum.elim (fun y31 => (some ((Tg.mk : Tg 3), y28, false, y24.1, y24.2.2.1, y24.2.2.2.1, y24.2.2.2.2.1, y26.1, y26.2.2.1, y26.2.2.2.1, y26.2.2.2.2.1, y31.1, [], y31.2.2.1, y31.2.2.2.1, y31.2.2.2.2.1, y24.2.1))) (fun y32 => (some ((Tg.mk : Tg 3), y28, true, y24.1, y24.2.2.1, y24.2.2.2.1, y24.2.2.2.2.1, y26.1, y26.2.2.1, y26.2.2.2.1, y26.2.2.2.2.1, y32.1, y32.2.1, y32.2.2.1, y32.2.2.2.1, y32.2.2.2.2.1, y24.2.1))))).bind fun z33 => ((laws_eqRopeway (z33.2.2.2.2.2.2.2.2.2.2.2.1, z33.2.2.2.2.2.2.2.2.2.2.2.2.1, z33.2.2.2.2.2.2.2.2.2.2.2.2.2.1, z33.2.2.2.2.2.2.2.2.2.2.2.2.2.2.1, z33.2.2.2.2.2.2.2.2.2.2.2.2.2.2.2.1, ()) (z33.2.2.2.1, z33.2.2.2.2.2.2.2.2.2.2.2.2.2.2.2.2, z33.2.2.2.2.1, z33.2.2.2.2.2.1, z33.2.2.2.2.2.2.1, ())).bind fun y34 => (cond (!y34) ((some false)) (cond (!(z33.2.2.1 == true)) ((some false)) ((laws_heldRopeway (z33.2.2.2.2.2.2.2.1, [], z33.2.2.2.2.2.2.2.2.1, z33.2.2.2.2.2.2.2.2.2.1, z33.2.2.2.2.2.2.2.2.2.2.1, ()) (1 : Int)).bind fun y35 => (cond (decide (y35 < (0 : Int))) ((some false)) (cond (!decide (y35 = z33.2.1)) ((some false)) ((some true))))))))))))))))) (fun y36 => ((laws_eqRopeway (y36.1, y36.2.1, y36.2.2.1, y36.2.2.2.1, y36.2.2.2.2.1, ()) (y24.1, y24.2.1, y24.2.2.1, y24.2.2.2.1, y24.2.2.2.2.1, ())).bind fun y37 => (cond (!y37) ((some false)) (cond (!(true == true)) ((some false)) ((laws_markRopeway (y36.1, y36.2.1, y36.2.2.1, y36.2.2.2.1, y36.2.2.2.2.1, ()) (1 : Int)).bind fun y38 => ((laws_heldRopeway (y36.1, y38.2, y36.2.2.1, y36.2.2.2.1, y36.2.2.2.2.1, ()) (1 : Int)).bind fun y39 => (cond (decide (y39 < (0 : Int))) ((some false)) (cond (!decide (y39 = y38.1)) ((some false)) (((impl_NewRopeway a0 a1).bind (Sum.elim (fun y41 => (some ((Tg.mk : Tg 4), y38.1, false, y24.1, y24.2.2.1, y24.2.2.2.1, y24.2.2.2.2.1, y36.1, y36.2.2.1, y36.2.2.2.1, y36.2.2.2.2.1, y41.1, [], y41.2.2.1, y41.2.2.2.1, y41.2.2.2.2.1, y24.2.1, y38.2))) (fun y42 => (some ((Tg.mk : Tg 4), y38.1, true, y24.1, y24.2.2.1, y24.2.2.2.1, y24.2.2.2.2.1, y36.1, y36.2.2.1, y36.2.2.2.1, y36.2.2.2.2.1, y42.1, y42.2.1, y42.2.2.1, y42.2.2.2.1, y42.2.2.2.2.1, y24.2.1, y38.2))))).bind fun z43 => ((laws_eqRopeway (z43.2.2.2.2.2.2.2.2.2.2.2.1, z43.2.2.2.2.2.2.2.2.2.2.2.2.1, z43.2.2.2.2.2.2.2.2.2.2.2.2.2.1, z43.2.2.2.2.2.2.2.2.2.2.2.2.2.2.1, z43.2.2.2.2.2.2.2.2.2.2.2.2.2.2.2.1, ()) (z43.2.2.2.1, z43.2.2.2.2.2.2.2.2.2.2.2.2.2.2.2.2.1, z43.2.2.2.2.1, z43.2.2.2.2.2.1, z43.2.2.2.2.2.2.1, ())).bind fun y44 => (cond (!y44) ((some false)) (cond (!(z43.2.2.1 == true)) ((some false)) ((laws_heldRopeway (z43.2.2.2.2.2.2.2.1, z43.2.2.2.2.2.2.2.2.2.2.2.2.2.2.2.2.2, z43.2.2.2.2.2.2.2.2.1, z43.2.2.2.2.2.2.2.2.2.1, z43.2.2.2.2.2.2.2.2.2.2.1, ()) (1 : Int)).bind fun y45 => (cond (decide (y45 < (0 : Int))) ((some false)) (cond (!decide (y45 = z43.2.1)) ((some false)) ((some true))))))))))))))))))))))
def laws_FnExactNewRopeway.res (_ : Int) (_ : Int) (y : Bool) : AV := (.bl y)
def laws_FnExactNewRopeway.out (_ : Int) (_ : Int) (_ : Bool) : List (Option LB) := []
def laws_FnExactNewRopeway.S (ar : List AV) (h : List (Option LB)) (r : AV) (h1 : List (Option LB)) : Prop := ∃ a0 a1 y, laws_FnExactNewRopeway a0 a1 = some y ∧ leL ar [(.v (.int .i64 a0)), (.v (.int .i64 a1))] ∧ leH h [] ∧ r = laws_FnExactNewRopeway.res a0 a1 y ∧ h1 = laws_FnExactNewRopeway.out a0 a1 y
theorem laws_FnExactNewRopeway.call {ar : List AV} {h : List (Option LB)} {a0 : Int} {a1 : Int} {y : Bool} (H : laws_FnExactNewRopeway a0 a1 = some y) (h0 : leLk ar [(.v (.int .i64 a0)), (.v (.int .i64 a1))] (leHk h [])) : laws_FnExactNewRopeway.S ar h (laws_FnExactNewRopeway.res a0 a1 y) (laws_FnExactNewRopeway.out a0 a1 y) := ⟨a0, a1, y, H, (args_ok h0).1, (args_ok h0).2, rfl, rfl⟩
set_option maxHeartbeats 100000000 in
set_option maxRecDepth 100000 in
theorem laws_FnExactNewRopeway.spec (a0 : Int) (a1 : Int) (y : Bool) (H : laws_FnExactNewRopeway a0 a1 = some y) : Spec Try.prog 5 [(.v (.int .i64 a0)), (.v (.int .i64 a1))] [] (laws_FnExactNewRopeway.res a0 a1 y) (laws_FnExactNewRopeway.out a0 a1 y) := by
  refine spec_intro G33_ok (ct := [(14, none), (3, some [0, 1, 5, 6, 7, 8, 30, 31, 32, 56, 57, 58]), (7, some [0, 1, 5, 6, 7, 9, 56, 57, 58]), (18, some [9, 10])]) Try.func5 rfl (by kernel_rfl) (by kernel_rfl) rfl ?_
  repeat' first
    | ((with_reducible refine eqg ?_); exact rfl)
    | ((with_reducible refine KOb.mk ?_); kernel_rfl)
    | ((with_reducible intro h); (repeat (first | replace H := grd_k H | replace H := out_step H (by assumption))); first | replace H := cond_t h H | replace H := cond_f h H | exact absurd h (by decide) | skip)
    | ((with_reducible refine Ob.mk ?_); first | rfl | (repeat (first | exact grd_p H | replace H := grd_k H | replace H := out_step H (by assumption))))
    | (with_reducible exact True.intro)
    | constructor
    | ((conv => whnf); first
        | ((with_reducible refine Ob.mk ?_); first | rfl | (repeat (first | exact grd_p H | replace H := grd_k H | replace H := out_step H (by assumption))))
        | ((with_reducible refine CallW.mk ?_); (repeat (first | replace H := grd_k H | replace H := out_step H (by assumption))); replace H := bind_some H; obtain ⟨y, hy, H⟩ := H; first | ((with_reducible have hz : spec_NewRopeway _ _ = some y := hy); clear hz; rcases y with y | y <;> refine Exists.intro _ (Exists.intro _ ⟨spec_NewRopeway.call hy ?_, rfl, rfl, ?_⟩)) | ((with_reducible have hz : impl_NewRopeway _ _ = some y := hy); clear hz; rcases y with y | y <;> refine Exists.intro _ (Exists.intro _ ⟨impl_NewRopeway.call hy ?_, rfl, rfl, ?_⟩)) | ((with_reducible have hz : laws_eqRopeway _ _ = some y := hy); clear hz; refine Exists.intro _ (Exists.intro _ ⟨laws_eqRopeway.call hy ?_, rfl, rfl, ?_⟩)) | ((with_reducible have hz : laws_markRopeway_i1 _ _ _ _ _ = some y := hy); clear hz; refine Exists.intro _ (Exists.intro _ ⟨Or.inl (laws_markRopeway_i1.call hy ?_), rfl, rfl, ?_⟩)) | ((with_reducible have hz : laws_heldRopeway _ _ = some y := hy); clear hz; refine Exists.intro _ (Exists.intro _ ⟨laws_heldRopeway.call hy ?_, rfl, rfl, ?_⟩)) | ((with_reducible have hz : laws_markRopeway _ _ = some y := hy); clear hz; refine Exists.intro _ (Exists.intro _ ⟨Or.inr (laws_markRopeway.call hy ?_), rfl, rfl, ?_⟩)))
        | ((with_reducible refine cutAt (id := 14) ?_); (repeat (first | replace H := grd_k H | replace H := out_step H (by assumption))); first | (replace H := bind_some H; obtain ⟨z, hz, H⟩ := H; have hT : Tg 1 × Int × Bool × Int × Int × Int × Int × Int × Int × Int × Int × Int × (List Slot) × Int × Int × Int := z; clear hT; refine CutC.mk (id := 14) ⟨sl [(5, (.loc 0 0 0)), (6, (.v (.bool false))), (7, (.loc 1 0 0)), (9, (.v (.int .i64 z.2.1))), (11, (.loc 2 0 0)), (12, (.bl z.2.2.1))], [some (.box 29 [(.v (.int .i64 z.2.2.2.1)), (.v (.slice none 0 0)), (.v (.int .i64 z.2.2.2.2.1)), (.v (.int .i64 z.2.2.2.2.2.1)), (.v (.int .i64 z.2.2.2.2.2.2.1))]), some (.box 29 [(.v (.int .i64 z.2.2.2.2.2.2.2.1)), (.v (.slice none 0 0)), (.v (.int .i64 z.2.2.2.2.2.2.2.2.1)), (.v (.int .i64 z.2.2.2.2.2.2.2.2.2.1)), (.v (.int .i64 z.2.2.2.2.2.2.2.2.2.2.1))]), some (.box 29 [(.v (.int .i64 z.2.2.2.2.2.2.2.2.2.2.2.1)), (.tree ty_Slot z.2.2.2.2.2.2.2.2.2.2.2.2.1), (.v (.int .i64 z.2.2.2.2.2.2.2.2.2.2.2.2.2.1)), (.v (.int .i64 z.2.2.2.2.2.2.2.2.2.2.2.2.2.2.1)), (.v (.int .i64 z.2.2.2.2.2.2.2.2.2.2.2.2.2.2.2))])]⟩ ?_ ?_; (replace H := hz)) | (replace H := bind_some H; obtain ⟨z, hz, H⟩ := H; have hT : Tg 2 × Int × Bool × Int × Int × Int × Int × Int × Int × Int × Int × Int × (List Slot) × Int × Int × Int × (List Slot) := z; clear hT; refine CutC.mk (id := 14) ⟨sl [(5, (.loc 0 0 0)), (6, (.v (.bool false))), (7, (.loc 1 0 0)), (9, (.v (.int .i64 z.2.1))), (11, (.loc 2 0 0)), (12, (.bl z.2.2.1))], [some (.box 29 [(.v (.int .i64 z.2.2.2.1)), (.v (.slice none 0 0)), (.v (.int .i64 z.2.2.2.2.1)), (.v (.int .i64 z.2.2.2.2.2.1)), (.v (.int .i64 z.2.2.2.2.2.2.1))]), some (.box 29 [(.v (.int .i64 z.2.2.2.2.2.2.2.1)), (.own 3), (.v (.int .i64 z.2.2.2.2.2.2.2.2.1)), (.v (.int .i64 z.2.2.2.2.2.2.2.2.2.1)), (.v (.int .i64 z.2.2.2.2.2.2.2.2.2.2.1))]), some (.box 29 [(.v (.int .i64 z.2.2.2.2.2.2.2.2.2.2.2.1)), (.tree ty_Slot z.2.2.2.2.2.2.2.2.2.2.2.2.1), (.v (.int .i64 z.2.2.2.2.2.2.2.2.2.2.2.2.2.1)), (.v (.int .i64 z.2.2.2.2.2.2.2.2.2.2.2.2.2.2.1)), (.v (.int .i64 z.2.2.2.2.2.2.2.2.2.2.2.2.2.2.2.1))]), some (.arr 47 ty_Slot z.2.2.2.2.2.2.2.2.2.2.2.2.2.2.2.2)]⟩ ?_ ?_; (replace H := hz)) | (replace H := bind_some H; obtain ⟨z, hz, H⟩ := H; have hT : Tg 3 × Int × Bool × Int × Int × Int × Int × Int × Int × Int × Int × Int × (List Slot) × Int × Int × Int × (List Slot) := z; clear hT; refine CutC.mk (id := 14) ⟨sl [(5, (.loc 0 0 0)), (6, (.v (.bool true))), (7, (.loc 1 0 0)), (9, (.v (.int .i64 z.2.1))), (11, (.loc 2 0 0)), (12, (.bl z.2.2.1))], [some (.box 29 [(.v (.int .i64 z.2.2.2.1)), (.own 3), (.v (.int .i64 z.2.2.2.2.1)), (.v (.int .i64 z.2.2.2.2.2.1)), (.v (.int .i64 z.2.2.2.2.2.2.1))]), some (.box 29 [(.v (.int .i64 z.2.2.2.2.2.2.2.1)), (.v (.slice none 0 0)), (.v (.int .i64 z.2.2.2.2.2.2.2.2.1)), (.v (.int .i64 z.2.2.2.2.2.2.2.2.2.1)), (.v (.int .i64 z.2.2.2.2.2.2.2.2.2.2.1))]), some (.box 29 [(.v (.int .i64 z.2.2.2.2.2.2.2.2.2.2.2.1)), (.tree ty_Slot z.2.2.2.2.2.2.2.2.2.2.2.2.1), (.v (.int .i64 z.2.2.2.2.2.2.2.2.2.2.2.2.2.1)), (.v (.int .i64 z.2.2.2.2.2.2.2.2.2.2.2.2.2.2.1)), (.v (.int .i64 z.2.2.2.2.2.2.2.2.2.2.2.2.2.2.2.1))]), some (.arr 47 ty_Slot z.2.2.2.2.2.2.2.2.2.2.2.2.2.2.2.2)]⟩ ?_ ?_; (replace H := hz)) | (replace H := bind_some H; obtain ⟨z, hz, H⟩ := H; have hT : Tg 4 × Int × Bool × Int × Int × Int × Int × Int × Int × Int × Int × Int × (List Slot) × Int × Int × Int × (List Slot) × (List Slot) := z; clear hT; refine CutC.mk (id := 14) ⟨sl [(5, (.loc 0 0 0)), (6, (.v (.bool true))), (7, (.loc 1 0 0)), (9, (.v (.int .i64 z.2.1))), (11, (.loc 2 0 0)), (12, (.bl z.2.2.1))], [some (.box 29 [(.v (.int .i64 z.2.2.2.1)), (.own 3), (.v (.int .i64 z.2.2.2.2.1)), (.v (.int .i64 z.2.2.2.2.2.1)), (.v (.int .i64 z.2.2.2.2.2.2.1))]), some (.box 29 [(.v (.int .i64 z.2.2.2.2.2.2.2.1)), (.own 4), (.v (.int .i64 z.2.2.2.2.2.2.2.2.1)), (.v (.int .i64 z.2.2.2.2.2.2.2.2.2.1)), (.v (.int .i64 z.2.2.2.2.2.2.2.2.2.2.1))]), some (.box 29 [(.v (.int .i64 z.2.2.2.2.2.2.2.2.2.2.2.1)), (.tree ty_Slot z.2.2.2.2.2.2.2.2.2.2.2.2.1), (.v (.int .i64 z.2.2.2.2.2.2.2.2.2.2.2.2.2.1)), (.v (.int .i64 z.2.2.2.2.2.2.2.2.2.2.2.2.2.2.1)), (.v (.int .i64 z.2.2.2.2.2.2.2.2.2.2.2.2.2.2.2.1))]), some (.arr 47 ty_Slot z.2.2.2.2.2.2.2.2.2.2.2.2.2.2.2.2.1), some (.arr 47 ty_Slot z.2.2.2.2.2.2.2.2.2.2.2.2.2.2.2.2.2)]⟩ ?_ ?_; (replace H := hz)))
        | ((repeat (first | replace H := grd_k H | replace H := out_step H (by assumption))); have H := Option.some.inj H; subst H; with_reducible refine sub_auto ?_)
        | ((with_reducible refine fin_mk ?_); (repeat (first | replace H := grd_k H | replace H := out_step H (by assumption))); have H := Option.some.inj H; subst H))
def G34 : Env := G33.add 5 [] laws_FnExactNewRopeway.S
theorem G34_ok : EnvOk Try.prog G34 := G33_ok.add ent_5 fun ar h r h1 ⟨a0, a1, y, hy, e1, e2, e3, e4⟩ => by
  subst e3 e4; exact (laws_FnExactNewRopeway.spec a0 a1 y hy).le e1 e2
attribute [local irreducible] laws_FnExactNewRopeway

end Go.Proofs.Ytdlgljedjdnepaa
