/-
  Contracts, printed by a program.
-/
import Derived.Test.YtdlgljedjdnepaaTy
namespace Go.Proofs.Ytdlgljedjdnepaa
open Go.RowKit
attribute [local irreducible] Ob loopwp Sub Spec Fin Again CallW CutC KOb iter

noncomputable def laws_szSlotS (a0 : (List Slot)) (a1 : Int) : Option (Int) :=
  (cond (decide ((w64 (a1 - (a0.length : Int))) < (0 : Int))) ((some ((-1) : Int))) ((some (w64 (a1 - (a0.length : Int))))))
def laws_szSlotS.res (_ : (List Slot)) (_ : Int) (y : Int) : AV := (.v (.int .i64 y))
def laws_szSlotS.out (_ : (List Slot)) (_ : Int) (_ : Int) : List (Option LB) := []
def laws_szSlotS.S (ar : List AV) (h : List (Option LB)) (r : AV) (h1 : List (Option LB)) : Prop := ∃ a0 a1 y, laws_szSlotS a0 a1 = some y ∧ leL ar [(.tree ty_Slot a0), (.v (.int .i64 a1))] ∧ leH h [] ∧ r = laws_szSlotS.res a0 a1 y ∧ h1 = laws_szSlotS.out a0 a1 y
theorem laws_szSlotS.call {ar : List AV} {h : List (Option LB)} {a0 : (List Slot)} {a1 : Int} {y : Int} (H : laws_szSlotS a0 a1 = some y) (h1 : leL ar [(.tree ty_Slot a0), (.v (.int .i64 a1))]) (h2 : leH h []) : laws_szSlotS.S ar h (laws_szSlotS.res a0 a1 y) (laws_szSlotS.out a0 a1 y) := ⟨a0, a1, y, H, h1, h2, rfl, rfl⟩
set_option maxHeartbeats 4000000 in
set_option maxRecDepth 100000 in
theorem laws_szSlotS.spec (a0 : (List Slot)) (a1 : Int) (y : Int) (H : laws_szSlotS a0 a1 = some y) : Spec Try.prog 56 [(.tree ty_Slot a0), (.v (.int .i64 a1))] [] (laws_szSlotS.res a0 a1 y) (laws_szSlotS.out a0 a1 y) := by
  refine spec_intro G0_ok (ct := []) Try.func56 rfl (by kernel_rfl) (by kernel_rfl) rfl ?_
  repeat' first
    | ((with_reducible refine eqg ?_); exact rfl)
    | ((with_reducible refine KOb.mk ?_); kernel_rfl)
    | ((with_reducible intro h); (repeat (first | replace H := grd_k H | replace H := out_step H (by assumption))); first | replace H := cond_t h H | replace H := cond_f h H)
    | ((with_reducible refine Ob.mk ?_); first | rfl | (repeat (first | exact grd_p H | replace H := grd_k H | replace H := out_step H (by assumption))))
    | (with_reducible exact True.intro)
    | constructor
    | ((conv => whnf); first
        | ((with_reducible refine Ob.mk ?_); first | rfl | (repeat (first | exact grd_p H | replace H := grd_k H | replace H := out_step H (by assumption))))
        | ((with_reducible refine fin_mk ?_); (repeat (first | replace H := grd_k H | replace H := out_step H (by assumption))); have H := Option.some.inj H; subst H))
def G1 : Env := G0.add 56 [] laws_szSlotS.S
theorem G1_ok : EnvOk Try.prog G1 := G0_ok.add ent_56 fun ar h r h1 ⟨a0, a1, y, hy, e1, e2, e3, e4⟩ => by
  subst e3 e4; exact (laws_szSlotS.spec a0 a1 y hy).le e1 e2
attribute [local irreducible] laws_szSlotS

noncomputable def laws_szRopeway (a0 : Ropeway) (a1 : Int) : Option (Int) :=
  ((laws_szSlotS a0.2.1 a1).bind fun y1 => (cond (decide (y1 < (0 : Int))) ((some ((-1) : Int))) ((some y1))))
def laws_szRopeway.res (_ : Ropeway) (_ : Int) (y : Int) : AV := (.v (.int .i64 y))
def laws_szRopeway.out (_ : Ropeway) (_ : Int) (_ : Int) : List (Option LB) := []
def laws_szRopeway.S (ar : List AV) (h : List (Option LB)) (r : AV) (h1 : List (Option LB)) : Prop := ∃ a0 a1 y, laws_szRopeway a0 a1 = some y ∧ leL ar [(.agg [(.v (.int .i64 a0.1)), (.tree ty_Slot a0.2.1), (.v (.int .i64 a0.2.2.1)), (.v (.int .i64 a0.2.2.2.1)), (.v (.int .i64 a0.2.2.2.2.1))]), (.v (.int .i64 a1))] ∧ leH h [] ∧ r = laws_szRopeway.res a0 a1 y ∧ h1 = laws_szRopeway.out a0 a1 y
theorem laws_szRopeway.call {ar : List AV} {h : List (Option LB)} {a0 : Ropeway} {a1 : Int} {y : Int} (H : laws_szRopeway a0 a1 = some y) (h1 : leL ar [(.agg [(.v (.int .i64 a0.1)), (.tree ty_Slot a0.2.1), (.v (.int .i64 a0.2.2.1)), (.v (.int .i64 a0.2.2.2.1)), (.v (.int .i64 a0.2.2.2.2.1))]), (.v (.int .i64 a1))]) (h2 : leH h []) : laws_szRopeway.S ar h (laws_szRopeway.res a0 a1 y) (laws_szRopeway.out a0 a1 y) := ⟨a0, a1, y, H, h1, h2, rfl, rfl⟩
set_option maxHeartbeats 4000000 in
set_option maxRecDepth 100000 in
theorem laws_szRopeway.spec (a0 : Ropeway) (a1 : Int) (y : Int) (H : laws_szRopeway a0 a1 = some y) : Spec Try.prog 14 [(.agg [(.v (.int .i64 a0.1)), (.tree ty_Slot a0.2.1), (.v (.int .i64 a0.2.2.1)), (.v (.int .i64 a0.2.2.2.1)), (.v (.int .i64 a0.2.2.2.2.1))]), (.v (.int .i64 a1))] [] (laws_szRopeway.res a0 a1 y) (laws_szRopeway.out a0 a1 y) := by
  refine spec_intro G1_ok (ct := []) Try.func14 rfl (by kernel_rfl) (by kernel_rfl) rfl ?_
  repeat' first
    | ((with_reducible refine eqg ?_); exact rfl)
    | ((with_reducible refine KOb.mk ?_); kernel_rfl)
    | ((with_reducible intro h); (repeat (first | replace H := grd_k H | replace H := out_step H (by assumption))); first | replace H := cond_t h H | replace H := cond_f h H)
    | ((with_reducible refine Ob.mk ?_); first | rfl | (repeat (first | exact grd_p H | replace H := grd_k H | replace H := out_step H (by assumption))))
    | (with_reducible exact True.intro)
    | constructor
    | ((conv => whnf); first
        | ((with_reducible refine Ob.mk ?_); first | rfl | (repeat (first | exact grd_p H | replace H := grd_k H | replace H := out_step H (by assumption))))
        | ((with_reducible refine CallW.mk ?_); (repeat (first | replace H := grd_k H | replace H := out_step H (by assumption))); obtain ⟨y, hy, H⟩ := bind_some H; first | ((with_reducible have hz : laws_szSlotS _ _ = some y := hy); clear hz; refine Exists.intro _ (Exists.intro _ ⟨laws_szSlotS.call hy ?_ ?_, rfl, rfl, ?_⟩)))
        | ((with_reducible refine fin_mk ?_); (repeat (first | replace H := grd_k H | replace H := out_step H (by assumption))); have H := Option.some.inj H; subst H))
def G2 : Env := G1.add 14 [] laws_szRopeway.S
theorem G2_ok : EnvOk Try.prog G2 := G1_ok.add ent_14 fun ar h r h1 ⟨a0, a1, y, hy, e1, e2, e3, e4⟩ => by
  subst e3 e4; exact (laws_szRopeway.spec a0 a1 y hy).le e1 e2
attribute [local irreducible] laws_szRopeway

noncomputable def laws_toSlot (a0 : Slot) : Option (Slot) :=
  (some (a0.1, a0.2.1, a0.2.2.1, ()))
def laws_toSlot.res (_ : Slot) (y : Slot) : AV := (.agg [(.v (.int .i64 y.1)), (.bl y.2.1), (.v (.int .i64 y.2.2.1))])
def laws_toSlot.out (_ : Slot) (_ : Slot) : List (Option LB) := []
def laws_toSlot.S (ar : List AV) (h : List (Option LB)) (r : AV) (h1 : List (Option LB)) : Prop := ∃ a0 y, laws_toSlot a0 = some y ∧ leL ar [(.agg [(.v (.int .i64 a0.1)), (.bl a0.2.1), (.v (.int .i64 a0.2.2.1))])] ∧ leH h [] ∧ r = laws_toSlot.res a0 y ∧ h1 = laws_toSlot.out a0 y
theorem laws_toSlot.call {ar : List AV} {h : List (Option LB)} {a0 : Slot} {y : Slot} (H : laws_toSlot a0 = some y) (h1 : leL ar [(.agg [(.v (.int .i64 a0.1)), (.bl a0.2.1), (.v (.int .i64 a0.2.2.1))])]) (h2 : leH h []) : laws_toSlot.S ar h (laws_toSlot.res a0 y) (laws_toSlot.out a0 y) := ⟨a0, y, H, h1, h2, rfl, rfl⟩
set_option maxHeartbeats 4000000 in
set_option maxRecDepth 100000 in
theorem laws_toSlot.spec (a0 : Slot) (y : Slot) (H : laws_toSlot a0 = some y) : Spec Try.prog 86 [(.agg [(.v (.int .i64 a0.1)), (.bl a0.2.1), (.v (.int .i64 a0.2.2.1))])] [] (laws_toSlot.res a0 y) (laws_toSlot.out a0 y) := by
  refine spec_intro G2_ok (ct := []) Try.func86 rfl (by kernel_rfl) (by kernel_rfl) rfl ?_
  repeat' first
    | ((with_reducible refine eqg ?_); exact rfl)
    | ((with_reducible refine KOb.mk ?_); kernel_rfl)
    | ((with_reducible intro h); (repeat (first | replace H := grd_k H | replace H := out_step H (by assumption))); first | replace H := cond_t h H | replace H := cond_f h H)
    | ((with_reducible refine Ob.mk ?_); first | rfl | (repeat (first | exact grd_p H | replace H := grd_k H | replace H := out_step H (by assumption))))
    | (with_reducible exact True.intro)
    | constructor
    | ((conv => whnf); first
        | ((with_reducible refine Ob.mk ?_); first | rfl | (repeat (first | exact grd_p H | replace H := grd_k H | replace H := out_step H (by assumption))))
        | ((with_reducible refine fin_mk ?_); (repeat (first | replace H := grd_k H | replace H := out_step H (by assumption))); have H := Option.some.inj H; subst H))
def G3 : Env := G2.add 86 [] laws_toSlot.S
theorem G3_ok : EnvOk Try.prog G3 := G2_ok.add ent_86 fun ar h r h1 ⟨a0, y, hy, e1, e2, e3, e4⟩ => by
  subst e3 e4; exact (laws_toSlot.spec a0 y hy).le e1 e2
attribute [local irreducible] laws_toSlot

noncomputable def laws_toSlotS_loop1 (a0 : (List Slot)) (v5 : Int) (v6 : (List Slot)) : Option (Lp (Int × (List Slot)) (((List Slot)))) :=
  (cond (decide (v5 < (a0.length : Int))) (grd (0 ≤ v5 ∧ v5 < (a0.length : Int)) ((laws_toSlot ((a0.getD v5.toNat d_Slot).1, (a0.getD v5.toNat d_Slot).2.1, (a0.getD v5.toNat d_Slot).2.2.1, ())).bind fun y7 => (grd (0 ≤ v5 ∧ v5 < (v6.length : Int)) (some (.go ((w64 (v5 + (1 : Int))), (v6.set v5.toNat (y7.1, y7.2.1, y7.2.2.1, ())))))))) ((some (.out v6))))
noncomputable def laws_toSlotS (a0 : (List Slot)) : Option ((List Slot)) :=
  (grd (0 ≤ (a0.length : Int) ∧ (a0.length : Int) ≤ (a0.length : Int) ∧ (24 : Int) * (a0.length : Int) ≤ 140737488355328 ∧ (a0.length : Int) ≤ 140737488355328) ((iter (fun s => laws_toSlotS_loop1 a0 s.1 s.2) ((0 : Int), (List.replicate (a0.length : Int).toNat ((0 : Int), false, (0 : Int), ())))).bind (fun r8 => (some r8))))
def laws_toSlotS.res (_ : (List Slot)) (_ : (List Slot)) : AV := (.own 0)
def laws_toSlotS.out (_ : (List Slot)) (y : (List Slot)) : List (Option LB) := [some (.arr 47 ty_Slot y)]
def laws_toSlotS.S (ar : List AV) (h : List (Option LB)) (r : AV) (h1 : List (Option LB)) : Prop := ∃ a0 y, laws_toSlotS a0 = some y ∧ leL ar [(.tree ty_Slot a0)] ∧ leH h [] ∧ r = laws_toSlotS.res a0 y ∧ h1 = laws_toSlotS.out a0 y
theorem laws_toSlotS.call {ar : List AV} {h : List (Option LB)} {a0 : (List Slot)} {y : (List Slot)} (H : laws_toSlotS a0 = some y) (h1 : leL ar [(.tree ty_Slot a0)]) (h2 : leH h []) : laws_toSlotS.S ar h (laws_toSlotS.res a0 y) (laws_toSlotS.out a0 y) := ⟨a0, y, H, h1, h2, rfl, rfl⟩
set_option maxHeartbeats 4000000 in
set_option maxRecDepth 100000 in
theorem laws_toSlotS.spec (a0 : (List Slot)) (y : (List Slot)) (H : laws_toSlotS a0 = some y) : Spec Try.prog 58 [(.tree ty_Slot a0)] [] (laws_toSlotS.res a0 y) (laws_toSlotS.out a0 y) := by
  refine spec_intro G3_ok (ct := []) Try.func58 rfl (by kernel_rfl) (by kernel_rfl) rfl ?_
  repeat' first
    | ((with_reducible refine eqg ?_); exact rfl)
    | ((with_reducible refine KOb.mk ?_); kernel_rfl)
    | ((with_reducible intro h); (repeat (first | replace H := grd_k H | replace H := out_step H (by assumption))); first | replace H := cond_t h H | replace H := cond_f h H)
    | ((with_reducible refine Ob.mk ?_); first | rfl | (repeat (first | exact grd_p H | replace H := grd_k H | replace H := out_step H (by assumption))))
    | (with_reducible exact True.intro)
    | constructor
    | ((conv => whnf); first
        | ((with_reducible refine Ob.mk ?_); first | rfl | (repeat (first | exact grd_p H | replace H := grd_k H | replace H := out_step H (by assumption))))
        | ((with_reducible refine CallW.mk ?_); (repeat (first | replace H := grd_k H | replace H := out_step H (by assumption))); obtain ⟨y, hy, H⟩ := bind_some H; first | ((with_reducible have hz : laws_toSlot _ = some y := hy); clear hz; refine Exists.intro _ (Exists.intro _ ⟨laws_toSlot.call hy ?_ ?_, rfl, rfl, ?_⟩)))
        | ((repeat (first | replace H := grd_k H | replace H := out_step H (by assumption))); refine loop_iter G3_ok (ct := []) (F := (fun s1 : Int × (List Slot) => ⟨sl [(0, (.tree ty_Slot a0)), (3, (.own 0)), (4, (.v (.int .i64 s1.1)))], [some (.arr 47 ty_Slot s1.2)]⟩)) (step := (fun s : Int × (List Slot) => laws_toSlotS_loop1 _ s.1 s.2)) _ H (by kernel_rfl) (sub_auto ?_) ?_; rotate_left; (intro s1 r v hr H); rotate_right)
        | ((repeat (first | replace H := grd_k H | replace H := out_step H (by assumption))); refine again_step H (by assumption) (sub_auto ?_))
        | ((with_reducible refine fin_mk ?_); (repeat (first | replace H := grd_k H | replace H := out_step H (by assumption))); have H := Option.some.inj H; subst H))
def G4 : Env := G3.add 58 [] laws_toSlotS.S
theorem G4_ok : EnvOk Try.prog G4 := G3_ok.add ent_58 fun ar h r h1 ⟨a0, y, hy, e1, e2, e3, e4⟩ => by
  subst e3 e4; exact (laws_toSlotS.spec a0 y hy).le e1 e2
attribute [local irreducible] laws_toSlotS

noncomputable def laws_toRopeway (a0 : Ropeway) : Option (Ropeway) :=
  ((laws_toSlotS a0.2.1).bind fun y1 => (some (a0.1, y1, a0.2.2.1, a0.2.2.2.1, a0.2.2.2.2.1, ())))
def laws_toRopeway.res (_ : Ropeway) (y : Ropeway) : AV := (.agg [(.v (.int .i64 y.1)), (.own 0), (.v (.int .i64 y.2.2.1)), (.v (.int .i64 y.2.2.2.1)), (.v (.int .i64 y.2.2.2.2.1))])
def laws_toRopeway.out (_ : Ropeway) (y : Ropeway) : List (Option LB) := [some (.arr 47 ty_Slot y.2.1)]
def laws_toRopeway.S (ar : List AV) (h : List (Option LB)) (r : AV) (h1 : List (Option LB)) : Prop := ∃ a0 y, laws_toRopeway a0 = some y ∧ leL ar [(.agg [(.v (.int .i64 a0.1)), (.tree ty_Slot a0.2.1), (.v (.int .i64 a0.2.2.1)), (.v (.int .i64 a0.2.2.2.1)), (.v (.int .i64 a0.2.2.2.2.1))])] ∧ leH h [] ∧ r = laws_toRopeway.res a0 y ∧ h1 = laws_toRopeway.out a0 y
theorem laws_toRopeway.call {ar : List AV} {h : List (Option LB)} {a0 : Ropeway} {y : Ropeway} (H : laws_toRopeway a0 = some y) (h1 : leL ar [(.agg [(.v (.int .i64 a0.1)), (.tree ty_Slot a0.2.1), (.v (.int .i64 a0.2.2.1)), (.v (.int .i64 a0.2.2.2.1)), (.v (.int .i64 a0.2.2.2.2.1))])]) (h2 : leH h []) : laws_toRopeway.S ar h (laws_toRopeway.res a0 y) (laws_toRopeway.out a0 y) := ⟨a0, y, H, h1, h2, rfl, rfl⟩
set_option maxHeartbeats 4000000 in
set_option maxRecDepth 100000 in
theorem laws_toRopeway.spec (a0 : Ropeway) (y : Ropeway) (H : laws_toRopeway a0 = some y) : Spec Try.prog 16 [(.agg [(.v (.int .i64 a0.1)), (.tree ty_Slot a0.2.1), (.v (.int .i64 a0.2.2.1)), (.v (.int .i64 a0.2.2.2.1)), (.v (.int .i64 a0.2.2.2.2.1))])] [] (laws_toRopeway.res a0 y) (laws_toRopeway.out a0 y) := by
  refine spec_intro G4_ok (ct := []) Try.func16 rfl (by kernel_rfl) (by kernel_rfl) rfl ?_
  repeat' first
    | ((with_reducible refine eqg ?_); exact rfl)
    | ((with_reducible refine KOb.mk ?_); kernel_rfl)
    | ((with_reducible intro h); (repeat (first | replace H := grd_k H | replace H := out_step H (by assumption))); first | replace H := cond_t h H | replace H := cond_f h H)
    | ((with_reducible refine Ob.mk ?_); first | rfl | (repeat (first | exact grd_p H | replace H := grd_k H | replace H := out_step H (by assumption))))
    | (with_reducible exact True.intro)
    | constructor
    | ((conv => whnf); first
        | ((with_reducible refine Ob.mk ?_); first | rfl | (repeat (first | exact grd_p H | replace H := grd_k H | replace H := out_step H (by assumption))))
        | ((with_reducible refine CallW.mk ?_); (repeat (first | replace H := grd_k H | replace H := out_step H (by assumption))); obtain ⟨y, hy, H⟩ := bind_some H; first | ((with_reducible have hz : laws_toSlotS _ = some y := hy); clear hz; refine Exists.intro _ (Exists.intro _ ⟨laws_toSlotS.call hy ?_ ?_, rfl, rfl, ?_⟩)))
        | ((with_reducible refine fin_mk ?_); (repeat (first | replace H := grd_k H | replace H := out_step H (by assumption))); have H := Option.some.inj H; subst H))
def G5 : Env := G4.add 16 [] laws_toRopeway.S
theorem G5_ok : EnvOk Try.prog G5 := G4_ok.add ent_16 fun ar h r h1 ⟨a0, y, hy, e1, e2, e3, e4⟩ => by
  subst e3 e4; exact (laws_toRopeway.spec a0 y hy).le e1 e2
attribute [local irreducible] laws_toRopeway

noncomputable def spec_l1In (a0 : Int) (a1 : Int) (a2 : Int) : Option (Bool) :=
  (cond (decide (a1 ≤ a0)) ((some (decide (a0 ≤ a2)))) ((some false)))
def spec_l1In.res (_ : Int) (_ : Int) (_ : Int) (y : Bool) : AV := (.bl y)
def spec_l1In.out (_ : Int) (_ : Int) (_ : Int) (_ : Bool) : List (Option LB) := []
def spec_l1In.S (ar : List AV) (h : List (Option LB)) (r : AV) (h1 : List (Option LB)) : Prop := ∃ a0 a1 a2 y, spec_l1In a0 a1 a2 = some y ∧ leL ar [(.v (.int .i64 a0)), (.v (.int .i64 a1)), (.v (.int .i64 a2))] ∧ leH h [] ∧ r = spec_l1In.res a0 a1 a2 y ∧ h1 = spec_l1In.out a0 a1 a2 y
theorem spec_l1In.call {ar : List AV} {h : List (Option LB)} {a0 : Int} {a1 : Int} {a2 : Int} {y : Bool} (H : spec_l1In a0 a1 a2 = some y) (h1 : leL ar [(.v (.int .i64 a0)), (.v (.int .i64 a1)), (.v (.int .i64 a2))]) (h2 : leH h []) : spec_l1In.S ar h (spec_l1In.res a0 a1 a2 y) (spec_l1In.out a0 a1 a2 y) := ⟨a0, a1, a2, y, H, h1, h2, rfl, rfl⟩
set_option maxHeartbeats 4000000 in
set_option maxRecDepth 100000 in
theorem spec_l1In.spec (a0 : Int) (a1 : Int) (a2 : Int) (y : Bool) (H : spec_l1In a0 a1 a2 = some y) : Spec Try.prog 76 [(.v (.int .i64 a0)), (.v (.int .i64 a1)), (.v (.int .i64 a2))] [] (spec_l1In.res a0 a1 a2 y) (spec_l1In.out a0 a1 a2 y) := by
  refine spec_intro G5_ok (ct := []) Try.func76 rfl (by kernel_rfl) (by kernel_rfl) rfl ?_
  repeat' first
    | ((with_reducible refine eqg ?_); exact rfl)
    | ((with_reducible refine KOb.mk ?_); kernel_rfl)
    | ((with_reducible intro h); (repeat (first | replace H := grd_k H | replace H := out_step H (by assumption))); first | replace H := cond_t h H | replace H := cond_f h H)
    | ((with_reducible refine Ob.mk ?_); first | rfl | (repeat (first | exact grd_p H | replace H := grd_k H | replace H := out_step H (by assumption))))
    | (with_reducible exact True.intro)
    | constructor
    | ((conv => whnf); first
        | ((with_reducible refine Ob.mk ?_); first | rfl | (repeat (first | exact grd_p H | replace H := grd_k H | replace H := out_step H (by assumption))))
        | ((with_reducible refine fin_mk ?_); (repeat (first | replace H := grd_k H | replace H := out_step H (by assumption))); have H := Option.some.inj H; subst H))
def G6 : Env := G5.add 76 [] spec_l1In.S
theorem G6_ok : EnvOk Try.prog G6 := G5_ok.add ent_76 fun ar h r h1 ⟨a0, a1, a2, y, hy, e1, e2, e3, e4⟩ => by
  subst e3 e4; exact (spec_l1In.spec a0 a1 a2 y hy).le e1 e2
attribute [local irreducible] spec_l1In

noncomputable def spec_l25Slot_loop1 (a0 : Ropeway) (a1 : Int) (v4 : Int) : Option (Lp (Int) ((Unit) ⊕ (Unit))) :=
  (cond (decide (v4 < a1)) (grd (0 ≤ v4 ∧ v4 < (a0.2.1.length : Int)) (cond (decide (((a0.2.1.getD v4.toNat d_Slot).1) = ((a0.2.1.getD a1.toNat d_Slot).1))) ((some (.out (Sum.inl ())))) (some (.go (w64 (v4 + (1 : Int))))))) ((some (.out (Sum.inr ())))))
noncomputable def spec_l25Slot (a0 : Ropeway) (a1 : Int) : Option (Bool) :=
  (grd (0 ≤ a1 ∧ a1 < (a0.2.1.length : Int)) ((spec_l1In ((a0.2.1.getD a1.toNat d_Slot).1) (0 : Int) (20 : Int)).bind fun y1 => (cond (!y1) ((some false)) ((spec_l1In ((a0.2.1.getD a1.toNat d_Slot).2.2.1) (0 : Int) (8 : Int)).bind fun y2 => (cond (!y2) ((some false)) (cond (decide (((a0.2.1.getD a1.toNat d_Slot).1) = (0 : Int))) (cond (!((a0.2.1.getD a1.toNat d_Slot).2.1)) ((some (decide (((a0.2.1.getD a1.toNat d_Slot).2.2.1) = (0 : Int))))) ((some false))) ((iter (fun s => spec_l25Slot_loop1 a0 a1 s) (0 : Int)).bind (Sum.elim (fun r6 => (some false)) (fun r7 => (grd ((a0.2.1.length : Int) ≠ 0) (grd (0 ≤ (Int.tmod (w64 (a1 + (1 : Int))) (a0.2.1.length : Int)) ∧ (Int.tmod (w64 (a1 + (1 : Int))) (a0.2.1.length : Int)) < (a0.2.1.length : Int)) (cond (!decide (((a0.2.1.getD ((Int.tmod (w64 (a1 + (1 : Int))) (a0.2.1.length : Int)).toNat) d_Slot).1) = (0 : Int))) ((some false)) (cond (!((a0.2.1.getD a1.toNat d_Slot).2.1)) ((some true)) (cond (decide (a1 = (0 : Int))) ((some true)) (grd ((2 : Int) ≠ 0) ((some (decide (a1 = (w64 (Int.tdiv (a0.2.1.length : Int) (2 : Int))))))))))))))))))))))
def spec_l25Slot.res (_ : Ropeway) (_ : Int) (y : Bool) : AV := (.bl y)
def spec_l25Slot.out (_ : Ropeway) (_ : Int) (_ : Bool) : List (Option LB) := []
def spec_l25Slot.S (ar : List AV) (h : List (Option LB)) (r : AV) (h1 : List (Option LB)) : Prop := ∃ a0 a1 y, spec_l25Slot a0 a1 = some y ∧ leL ar [(.agg [(.v (.int .i64 a0.1)), (.tree ty_Slot a0.2.1), (.v (.int .i64 a0.2.2.1)), (.v (.int .i64 a0.2.2.2.1)), (.v (.int .i64 a0.2.2.2.2.1))]), (.v (.int .i64 a1))] ∧ leH h [] ∧ r = spec_l25Slot.res a0 a1 y ∧ h1 = spec_l25Slot.out a0 a1 y
theorem spec_l25Slot.call {ar : List AV} {h : List (Option LB)} {a0 : Ropeway} {a1 : Int} {y : Bool} (H : spec_l25Slot a0 a1 = some y) (h1 : leL ar [(.agg [(.v (.int .i64 a0.1)), (.tree ty_Slot a0.2.1), (.v (.int .i64 a0.2.2.1)), (.v (.int .i64 a0.2.2.2.1)), (.v (.int .i64 a0.2.2.2.2.1))]), (.v (.int .i64 a1))]) (h2 : leH h []) : spec_l25Slot.S ar h (spec_l25Slot.res a0 a1 y) (spec_l25Slot.out a0 a1 y) := ⟨a0, a1, y, H, h1, h2, rfl, rfl⟩
set_option maxHeartbeats 4000000 in
set_option maxRecDepth 100000 in
theorem spec_l25Slot.spec (a0 : Ropeway) (a1 : Int) (y : Bool) (H : spec_l25Slot a0 a1 = some y) : Spec Try.prog 85 [(.agg [(.v (.int .i64 a0.1)), (.tree ty_Slot a0.2.1), (.v (.int .i64 a0.2.2.1)), (.v (.int .i64 a0.2.2.2.1)), (.v (.int .i64 a0.2.2.2.2.1))]), (.v (.int .i64 a1))] [] (spec_l25Slot.res a0 a1 y) (spec_l25Slot.out a0 a1 y) := by
  refine spec_intro G6_ok (ct := []) Try.func85 rfl (by kernel_rfl) (by kernel_rfl) rfl ?_
  repeat' first
    | ((with_reducible refine eqg ?_); exact rfl)
    | ((with_reducible refine KOb.mk ?_); kernel_rfl)
    | ((with_reducible intro h); (repeat (first | replace H := grd_k H | replace H := out_step H (by assumption))); first | replace H := cond_t h H | replace H := cond_f h H)
    | ((with_reducible refine Ob.mk ?_); first | rfl | (repeat (first | exact grd_p H | replace H := grd_k H | replace H := out_step H (by assumption))))
    | (with_reducible exact True.intro)
    | constructor
    | ((conv => whnf); first
        | ((with_reducible refine Ob.mk ?_); first | rfl | (repeat (first | exact grd_p H | replace H := grd_k H | replace H := out_step H (by assumption))))
        | ((with_reducible refine CallW.mk ?_); (repeat (first | replace H := grd_k H | replace H := out_step H (by assumption))); obtain ⟨y, hy, H⟩ := bind_some H; first | ((with_reducible have hz : spec_l1In _ _ _ = some y := hy); clear hz; refine Exists.intro _ (Exists.intro _ ⟨spec_l1In.call hy ?_ ?_, rfl, rfl, ?_⟩)))
        | ((repeat (first | replace H := grd_k H | replace H := out_step H (by assumption))); refine loop_iter G6_ok (ct := []) (F := (fun s1 : Int => ⟨sl [(1, (.v (.int .i64 a1))), (2, (.loc 0 0 0)), (5, (.loc 1 0 0)), (6, (.v (.int .i64 s1)))], [some (.box 29 [(.v (.int .i64 a0.1)), (.tree ty_Slot a0.2.1), (.v (.int .i64 a0.2.2.1)), (.v (.int .i64 a0.2.2.2.1)), (.v (.int .i64 a0.2.2.2.2.1))]), some (.box 47 [(.v (.int .i64 ((a0.2.1.getD a1.toNat d_Slot).1))), (.bl ((a0.2.1.getD a1.toNat d_Slot).2.1)), (.v (.int .i64 ((a0.2.1.getD a1.toNat d_Slot).2.2.1)))])]⟩)) (step := (fun s : Int => spec_l25Slot_loop1 _ _ s)) _ H (by kernel_rfl) (sub_auto ?_) ?_; rotate_left; (intro s1 r v hr H); rotate_right)
        | ((repeat (first | replace H := grd_k H | replace H := out_step H (by assumption))); refine again_step H (by assumption) (sub_auto ?_))
        | ((with_reducible refine fin_mk ?_); (repeat (first | replace H := grd_k H | replace H := out_step H (by assumption))); have H := Option.some.inj H; subst H))
def G7 : Env := G6.add 85 [] spec_l25Slot.S
theorem G7_ok : EnvOk Try.prog G7 := G6_ok.add ent_85 fun ar h r h1 ⟨a0, a1, y, hy, e1, e2, e3, e4⟩ => by
  subst e3 e4; exact (spec_l25Slot.spec a0 a1 y hy).le e1 e2
attribute [local irreducible] spec_l25Slot

noncomputable def spec_l25Good_loop1 (a0 : Ropeway) (v9 : Int) : Option (Lp (Int) ((Unit) ⊕ (Unit))) :=
  (cond (decide (v9 < (a0.2.1.length : Int))) ((spec_l25Slot (a0.1, a0.2.1, a0.2.2.1, a0.2.2.2.1, a0.2.2.2.2.1, ()) v9).bind fun y10 => (cond (!y10) ((some (.out (Sum.inl ())))) (some (.go (w64 (v9 + (1 : Int))))))) ((some (.out (Sum.inr ())))))
noncomputable def spec_l25Good (a0 : Ropeway) : Option (Bool) :=
  ((spec_l1In a0.1 (0 : Int) (3 : Int)).bind fun y1 => (cond (!y1) ((some false)) ((spec_l1In (a0.2.1.length : Int) (4 : Int) (10 : Int)).bind fun y2 => (cond (!y2) ((some false)) (grd ((2 : Int) ≠ 0) (cond (!decide ((Int.tmod (a0.2.1.length : Int) (2 : Int)) = (0 : Int))) ((some false)) ((spec_l1In a0.2.2.1 (0 : Int) (500 : Int)).bind fun y3 => (cond (!y3) ((some false)) ((spec_l1In a0.2.2.2.1 (0 : Int) (500 : Int)).bind fun y4 => (cond (!y4) ((some false)) ((spec_l1In a0.2.2.2.2.1 (0 : Int) (500 : Int)).bind fun y5 => (cond (!y5) ((some false)) ((iter (fun s => spec_l25Good_loop1 a0 s) (0 : Int)).bind (Sum.elim (fun r12 => (some false)) (fun r13 => (some true))))))))))))))))
def spec_l25Good.res (_ : Ropeway) (y : Bool) : AV := (.bl y)
def spec_l25Good.out (_ : Ropeway) (_ : Bool) : List (Option LB) := []
def spec_l25Good.S (ar : List AV) (h : List (Option LB)) (r : AV) (h1 : List (Option LB)) : Prop := ∃ a0 y, spec_l25Good a0 = some y ∧ leL ar [(.agg [(.v (.int .i64 a0.1)), (.tree ty_Slot a0.2.1), (.v (.int .i64 a0.2.2.1)), (.v (.int .i64 a0.2.2.2.1)), (.v (.int .i64 a0.2.2.2.2.1))])] ∧ leH h [] ∧ r = spec_l25Good.res a0 y ∧ h1 = spec_l25Good.out a0 y
theorem spec_l25Good.call {ar : List AV} {h : List (Option LB)} {a0 : Ropeway} {y : Bool} (H : spec_l25Good a0 = some y) (h1 : leL ar [(.agg [(.v (.int .i64 a0.1)), (.tree ty_Slot a0.2.1), (.v (.int .i64 a0.2.2.1)), (.v (.int .i64 a0.2.2.2.1)), (.v (.int .i64 a0.2.2.2.2.1))])]) (h2 : leH h []) : spec_l25Good.S ar h (spec_l25Good.res a0 y) (spec_l25Good.out a0 y) := ⟨a0, y, H, h1, h2, rfl, rfl⟩
set_option maxHeartbeats 4000000 in
set_option maxRecDepth 100000 in
theorem spec_l25Good.spec (a0 : Ropeway) (y : Bool) (H : spec_l25Good a0 = some y) : Spec Try.prog 57 [(.agg [(.v (.int .i64 a0.1)), (.tree ty_Slot a0.2.1), (.v (.int .i64 a0.2.2.1)), (.v (.int .i64 a0.2.2.2.1)), (.v (.int .i64 a0.2.2.2.2.1))])] [] (spec_l25Good.res a0 y) (spec_l25Good.out a0 y) := by
  refine spec_intro G7_ok (ct := []) Try.func57 rfl (by kernel_rfl) (by kernel_rfl) rfl ?_
  repeat' first
    | ((with_reducible refine eqg ?_); exact rfl)
    | ((with_reducible refine KOb.mk ?_); kernel_rfl)
    | ((with_reducible intro h); (repeat (first | replace H := grd_k H | replace H := out_step H (by assumption))); first | replace H := cond_t h H | replace H := cond_f h H)
    | ((with_reducible refine Ob.mk ?_); first | rfl | (repeat (first | exact grd_p H | replace H := grd_k H | replace H := out_step H (by assumption))))
    | (with_reducible exact True.intro)
    | constructor
    | ((conv => whnf); first
        | ((with_reducible refine Ob.mk ?_); first | rfl | (repeat (first | exact grd_p H | replace H := grd_k H | replace H := out_step H (by assumption))))
        | ((with_reducible refine CallW.mk ?_); (repeat (first | replace H := grd_k H | replace H := out_step H (by assumption))); obtain ⟨y, hy, H⟩ := bind_some H; first | ((with_reducible have hz : spec_l1In _ _ _ = some y := hy); clear hz; refine Exists.intro _ (Exists.intro _ ⟨spec_l1In.call hy ?_ ?_, rfl, rfl, ?_⟩)) | ((with_reducible have hz : spec_l25Slot _ _ = some y := hy); clear hz; refine Exists.intro _ (Exists.intro _ ⟨spec_l25Slot.call hy ?_ ?_, rfl, rfl, ?_⟩)))
        | ((repeat (first | replace H := grd_k H | replace H := out_step H (by assumption))); refine loop_iter G7_ok (ct := []) (F := (fun s1 : Int => ⟨sl [(1, (.loc 0 0 0)), (3, (.v (.int .i64 (a0.2.1.length : Int)))), (4, (.v (.int .i64 s1)))], [some (.box 29 [(.v (.int .i64 a0.1)), (.tree ty_Slot a0.2.1), (.v (.int .i64 a0.2.2.1)), (.v (.int .i64 a0.2.2.2.1)), (.v (.int .i64 a0.2.2.2.2.1))])]⟩)) (step := (fun s : Int => spec_l25Good_loop1 _ s)) _ H (by kernel_rfl) (sub_auto ?_) ?_; rotate_left; (intro s1 r v hr H); rotate_right)
        | ((repeat (first | replace H := grd_k H | replace H := out_step H (by assumption))); refine again_step H (by assumption) (sub_auto ?_))
        | ((with_reducible refine fin_mk ?_); (repeat (first | replace H := grd_k H | replace H := out_step H (by assumption))); have H := Option.some.inj H; subst H))
def G8 : Env := G7.add 57 [] spec_l25Good.S
theorem G8_ok : EnvOk Try.prog G8 := G7_ok.add ent_57 fun ar h r h1 ⟨a0, y, hy, e1, e2, e3, e4⟩ => by
  subst e3 e4; exact (spec_l25Good.spec a0 y hy).le e1 e2
attribute [local irreducible] spec_l25Good

noncomputable def spec_IsRopeway (a0 : Ropeway) : Option (Bool) :=
  ((spec_l25Good (a0.1, a0.2.1, a0.2.2.1, a0.2.2.2.1, a0.2.2.2.2.1, ())).bind fun y1 => (some y1))
def spec_IsRopeway.res (_ : Ropeway) (y : Bool) : AV := (.bl y)
def spec_IsRopeway.out (_ : Ropeway) (_ : Bool) : List (Option LB) := []
def spec_IsRopeway.S (ar : List AV) (h : List (Option LB)) (r : AV) (h1 : List (Option LB)) : Prop := ∃ a0 y, spec_IsRopeway a0 = some y ∧ leL ar [(.agg [(.v (.int .i64 a0.1)), (.tree ty_Slot a0.2.1), (.v (.int .i64 a0.2.2.1)), (.v (.int .i64 a0.2.2.2.1)), (.v (.int .i64 a0.2.2.2.2.1))])] ∧ leH h [] ∧ r = spec_IsRopeway.res a0 y ∧ h1 = spec_IsRopeway.out a0 y
theorem spec_IsRopeway.call {ar : List AV} {h : List (Option LB)} {a0 : Ropeway} {y : Bool} (H : spec_IsRopeway a0 = some y) (h1 : leL ar [(.agg [(.v (.int .i64 a0.1)), (.tree ty_Slot a0.2.1), (.v (.int .i64 a0.2.2.1)), (.v (.int .i64 a0.2.2.2.1)), (.v (.int .i64 a0.2.2.2.2.1))])]) (h2 : leH h []) : spec_IsRopeway.S ar h (spec_IsRopeway.res a0 y) (spec_IsRopeway.out a0 y) := ⟨a0, y, H, h1, h2, rfl, rfl⟩
set_option maxHeartbeats 4000000 in
set_option maxRecDepth 100000 in
theorem spec_IsRopeway.spec (a0 : Ropeway) (y : Bool) (H : spec_IsRopeway a0 = some y) : Spec Try.prog 15 [(.agg [(.v (.int .i64 a0.1)), (.tree ty_Slot a0.2.1), (.v (.int .i64 a0.2.2.1)), (.v (.int .i64 a0.2.2.2.1)), (.v (.int .i64 a0.2.2.2.2.1))])] [] (spec_IsRopeway.res a0 y) (spec_IsRopeway.out a0 y) := by
  refine spec_intro G8_ok (ct := []) Try.func15 rfl (by kernel_rfl) (by kernel_rfl) rfl ?_
  repeat' first
    | ((with_reducible refine eqg ?_); exact rfl)
    | ((with_reducible refine KOb.mk ?_); kernel_rfl)
    | ((with_reducible intro h); (repeat (first | replace H := grd_k H | replace H := out_step H (by assumption))); first | replace H := cond_t h H | replace H := cond_f h H)
    | ((with_reducible refine Ob.mk ?_); first | rfl | (repeat (first | exact grd_p H | replace H := grd_k H | replace H := out_step H (by assumption))))
    | (with_reducible exact True.intro)
    | constructor
    | ((conv => whnf); first
        | ((with_reducible refine Ob.mk ?_); first | rfl | (repeat (first | exact grd_p H | replace H := grd_k H | replace H := out_step H (by assumption))))
        | ((with_reducible refine CallW.mk ?_); (repeat (first | replace H := grd_k H | replace H := out_step H (by assumption))); obtain ⟨y, hy, H⟩ := bind_some H; first | ((with_reducible have hz : spec_l25Good _ = some y := hy); clear hz; refine Exists.intro _ (Exists.intro _ ⟨spec_l25Good.call hy ?_ ?_, rfl, rfl, ?_⟩)))
        | ((with_reducible refine fin_mk ?_); (repeat (first | replace H := grd_k H | replace H := out_step H (by assumption))); have H := Option.some.inj H; subst H))
def G9 : Env := G8.add 15 [] spec_IsRopeway.S
theorem G9_ok : EnvOk Try.prog G9 := G8_ok.add ent_15 fun ar h r h1 ⟨a0, y, hy, e1, e2, e3, e4⟩ => by
  subst e3 e4; exact (spec_IsRopeway.spec a0 y hy).le e1 e2
attribute [local irreducible] spec_IsRopeway

noncomputable def impl_within (a0 : Int) (a1 : Int) (a2 : Int) : Option (Bool) :=
  (cond (decide (a1 ≤ a0)) ((some (decide (a0 ≤ a2)))) ((some false)))
def impl_within.res (_ : Int) (_ : Int) (_ : Int) (y : Bool) : AV := (.bl y)
def impl_within.out (_ : Int) (_ : Int) (_ : Int) (_ : Bool) : List (Option LB) := []
def impl_within.S (ar : List AV) (h : List (Option LB)) (r : AV) (h1 : List (Option LB)) : Prop := ∃ a0 a1 a2 y, impl_within a0 a1 a2 = some y ∧ leL ar [(.v (.int .i64 a0)), (.v (.int .i64 a1)), (.v (.int .i64 a2))] ∧ leH h [] ∧ r = impl_within.res a0 a1 a2 y ∧ h1 = impl_within.out a0 a1 a2 y
theorem impl_within.call {ar : List AV} {h : List (Option LB)} {a0 : Int} {a1 : Int} {a2 : Int} {y : Bool} (H : impl_within a0 a1 a2 = some y) (h1 : leL ar [(.v (.int .i64 a0)), (.v (.int .i64 a1)), (.v (.int .i64 a2))]) (h2 : leH h []) : impl_within.S ar h (impl_within.res a0 a1 a2 y) (impl_within.out a0 a1 a2 y) := ⟨a0, a1, a2, y, H, h1, h2, rfl, rfl⟩
set_option maxHeartbeats 4000000 in
set_option maxRecDepth 100000 in
theorem impl_within.spec (a0 : Int) (a1 : Int) (a2 : Int) (y : Bool) (H : impl_within a0 a1 a2 = some y) : Spec Try.prog 59 [(.v (.int .i64 a0)), (.v (.int .i64 a1)), (.v (.int .i64 a2))] [] (impl_within.res a0 a1 a2 y) (impl_within.out a0 a1 a2 y) := by
  refine spec_intro G9_ok (ct := []) Try.func59 rfl (by kernel_rfl) (by kernel_rfl) rfl ?_
  repeat' first
    | ((with_reducible refine eqg ?_); exact rfl)
    | ((with_reducible refine KOb.mk ?_); kernel_rfl)
    | ((with_reducible intro h); (repeat (first | replace H := grd_k H | replace H := out_step H (by assumption))); first | replace H := cond_t h H | replace H := cond_f h H)
    | ((with_reducible refine Ob.mk ?_); first | rfl | (repeat (first | exact grd_p H | replace H := grd_k H | replace H := out_step H (by assumption))))
    | (with_reducible exact True.intro)
    | constructor
    | ((conv => whnf); first
        | ((with_reducible refine Ob.mk ?_); first | rfl | (repeat (first | exact grd_p H | replace H := grd_k H | replace H := out_step H (by assumption))))
        | ((with_reducible refine fin_mk ?_); (repeat (first | replace H := grd_k H | replace H := out_step H (by assumption))); have H := Option.some.inj H; subst H))
def G10 : Env := G9.add 59 [] impl_within.S
theorem G10_ok : EnvOk Try.prog G10 := G9_ok.add ent_59 fun ar h r h1 ⟨a0, a1, a2, y, hy, e1, e2, e3, e4⟩ => by
  subst e3 e4; exact (impl_within.spec a0 a1 a2 y hy).le e1 e2
attribute [local irreducible] impl_within

noncomputable def impl_Ropeway_isStation (a0 : Ropeway) (a1 : Int) : Option (Bool) :=
  (cond (decide (a1 = (0 : Int))) ((some true)) (grd ((2 : Int) ≠ 0) ((some (decide (a1 = (w64 (Int.tdiv (a0.2.1.length : Int) (2 : Int)))))))))
def impl_Ropeway_isStation.res (_ : Ropeway) (_ : Int) (y : Bool) : AV := (.bl y)
def impl_Ropeway_isStation.out (_ : Ropeway) (_ : Int) (_ : Bool) : List (Option LB) := []
def impl_Ropeway_isStation.S (ar : List AV) (h : List (Option LB)) (r : AV) (h1 : List (Option LB)) : Prop := ∃ a0 a1 y, impl_Ropeway_isStation a0 a1 = some y ∧ leL ar [(.agg [(.v (.int .i64 a0.1)), (.tree ty_Slot a0.2.1), (.v (.int .i64 a0.2.2.1)), (.v (.int .i64 a0.2.2.2.1)), (.v (.int .i64 a0.2.2.2.2.1))]), (.v (.int .i64 a1))] ∧ leH h [] ∧ r = impl_Ropeway_isStation.res a0 a1 y ∧ h1 = impl_Ropeway_isStation.out a0 a1 y
theorem impl_Ropeway_isStation.call {ar : List AV} {h : List (Option LB)} {a0 : Ropeway} {a1 : Int} {y : Bool} (H : impl_Ropeway_isStation a0 a1 = some y) (h1 : leL ar [(.agg [(.v (.int .i64 a0.1)), (.tree ty_Slot a0.2.1), (.v (.int .i64 a0.2.2.1)), (.v (.int .i64 a0.2.2.2.1)), (.v (.int .i64 a0.2.2.2.2.1))]), (.v (.int .i64 a1))]) (h2 : leH h []) : impl_Ropeway_isStation.S ar h (impl_Ropeway_isStation.res a0 a1 y) (impl_Ropeway_isStation.out a0 a1 y) := ⟨a0, a1, y, H, h1, h2, rfl, rfl⟩
set_option maxHeartbeats 4000000 in
set_option maxRecDepth 100000 in
theorem impl_Ropeway_isStation.spec (a0 : Ropeway) (a1 : Int) (y : Bool) (H : impl_Ropeway_isStation a0 a1 = some y) : Spec Try.prog 60 [(.agg [(.v (.int .i64 a0.1)), (.tree ty_Slot a0.2.1), (.v (.int .i64 a0.2.2.1)), (.v (.int .i64 a0.2.2.2.1)), (.v (.int .i64 a0.2.2.2.2.1))]), (.v (.int .i64 a1))] [] (impl_Ropeway_isStation.res a0 a1 y) (impl_Ropeway_isStation.out a0 a1 y) := by
  refine spec_intro G10_ok (ct := []) Try.func60 rfl (by kernel_rfl) (by kernel_rfl) rfl ?_
  repeat' first
    | ((with_reducible refine eqg ?_); exact rfl)
    | ((with_reducible refine KOb.mk ?_); kernel_rfl)
    | ((with_reducible intro h); (repeat (first | replace H := grd_k H | replace H := out_step H (by assumption))); first | replace H := cond_t h H | replace H := cond_f h H)
    | ((with_reducible refine Ob.mk ?_); first | rfl | (repeat (first | exact grd_p H | replace H := grd_k H | replace H := out_step H (by assumption))))
    | (with_reducible exact True.intro)
    | constructor
    | ((conv => whnf); first
        | ((with_reducible refine Ob.mk ?_); first | rfl | (repeat (first | exact grd_p H | replace H := grd_k H | replace H := out_step H (by assumption))))
        | ((with_reducible refine fin_mk ?_); (repeat (first | replace H := grd_k H | replace H := out_step H (by assumption))); have H := Option.some.inj H; subst H))
def G11 : Env := G10.add 60 [] impl_Ropeway_isStation.S
theorem G11_ok : EnvOk Try.prog G11 := G10_ok.add ent_60 fun ar h r h1 ⟨a0, a1, y, hy, e1, e2, e3, e4⟩ => by
  subst e3 e4; exact (impl_Ropeway_isStation.spec a0 a1 y hy).le e1 e2
attribute [local irreducible] impl_Ropeway_isStation

noncomputable def impl_IsRopeway_1_i1 (a0 : Slot) (a100 : Int) (a101 : Bool) (a102 : Int) : Option (Bool) :=
  (some (decide (a0.1 = a100)))
def impl_IsRopeway_1_i1.res (_ : Slot) (_ : Int) (_ : Bool) (_ : Int) (y : Bool) : AV := (.bl y)
def impl_IsRopeway_1_i1.out (_ : Slot) (_ : Int) (_ : Bool) (_ : Int) (_ : Bool) : List (Option LB) := []
def impl_IsRopeway_1_i1.S (ar : List AV) (h : List (Option LB)) (r : AV) (h1 : List (Option LB)) : Prop := ∃ a0 a100 a101 a102 y, impl_IsRopeway_1_i1 a0 a100 a101 a102 = some y ∧ leL ar [(.agg [(.v (.int .i64 a0.1)), (.bl a0.2.1), (.v (.int .i64 a0.2.2.1))]), (.bptr [(.v (.int .i64 a100)), (.bl a101), (.v (.int .i64 a102))] 0)] ∧ leH h [] ∧ r = impl_IsRopeway_1_i1.res a0 a100 a101 a102 y ∧ h1 = impl_IsRopeway_1_i1.out a0 a100 a101 a102 y
theorem impl_IsRopeway_1_i1.call {ar : List AV} {h : List (Option LB)} {a0 : Slot} {a100 : Int} {a101 : Bool} {a102 : Int} {y : Bool} (H : impl_IsRopeway_1_i1 a0 a100 a101 a102 = some y) (h1 : leL ar [(.agg [(.v (.int .i64 a0.1)), (.bl a0.2.1), (.v (.int .i64 a0.2.2.1))]), (.bptr [(.v (.int .i64 a100)), (.bl a101), (.v (.int .i64 a102))] 0)]) (h2 : leH h []) : impl_IsRopeway_1_i1.S ar h (impl_IsRopeway_1_i1.res a0 a100 a101 a102 y) (impl_IsRopeway_1_i1.out a0 a100 a101 a102 y) := ⟨a0, a100, a101, a102, y, H, h1, h2, rfl, rfl⟩
set_option maxHeartbeats 4000000 in
set_option maxRecDepth 100000 in
theorem impl_IsRopeway_1_i1.spec (a0 : Slot) (a100 : Int) (a101 : Bool) (a102 : Int) (y : Bool) (H : impl_IsRopeway_1_i1 a0 a100 a101 a102 = some y) : Spec Try.prog 62 [(.agg [(.v (.int .i64 a0.1)), (.bl a0.2.1), (.v (.int .i64 a0.2.2.1))]), (.bptr [(.v (.int .i64 a100)), (.bl a101), (.v (.int .i64 a102))] 0)] [] (impl_IsRopeway_1_i1.res a0 a100 a101 a102 y) (impl_IsRopeway_1_i1.out a0 a100 a101 a102 y) := by
  refine spec_intro G11_ok (ct := []) Try.func62 rfl (by kernel_rfl) (by kernel_rfl) rfl ?_
  repeat' first
    | ((with_reducible refine eqg ?_); exact rfl)
    | ((with_reducible refine KOb.mk ?_); kernel_rfl)
    | ((with_reducible intro h); (repeat (first | replace H := grd_k H | replace H := out_step H (by assumption))); first | replace H := cond_t h H | replace H := cond_f h H)
    | ((with_reducible refine Ob.mk ?_); first | rfl | (repeat (first | exact grd_p H | replace H := grd_k H | replace H := out_step H (by assumption))))
    | (with_reducible exact True.intro)
    | constructor
    | ((conv => whnf); first
        | ((with_reducible refine Ob.mk ?_); first | rfl | (repeat (first | exact grd_p H | replace H := grd_k H | replace H := out_step H (by assumption))))
        | ((with_reducible refine fin_mk ?_); (repeat (first | replace H := grd_k H | replace H := out_step H (by assumption))); have H := Option.some.inj H; subst H))
def G12 : Env := G11.add 62 [] impl_IsRopeway_1_i1.S
theorem G12_ok : EnvOk Try.prog G12 := G11_ok.add ent_62 fun ar h r h1 ⟨a0, a100, a101, a102, y, hy, e1, e2, e3, e4⟩ => by
  subst e3 e4; exact (impl_IsRopeway_1_i1.spec a0 a100 a101 a102 y hy).le e1 e2
attribute [local irreducible] impl_IsRopeway_1_i1

noncomputable def slices_IndexFunc___impl_Slot_impl_Slot__i1_loop1 (a0 : (List Slot)) (a100 : Int) (a101 : Bool) (a102 : Int) (v4 : Int) : Option (Lp (Int) ((Int) ⊕ (Unit))) :=
  (cond (decide (v4 < (a0.length : Int))) (grd (0 ≤ v4 ∧ v4 < (a0.length : Int)) ((impl_IsRopeway_1_i1 ((a0.getD v4.toNat d_Slot).1, (a0.getD v4.toNat d_Slot).2.1, (a0.getD v4.toNat d_Slot).2.2.1, ()) a100 a101 a102).bind fun y5 => (cond y5 ((some (.out (Sum.inl v4)))) (some (.go (w64 (v4 + (1 : Int)))))))) ((some (.out (Sum.inr ())))))
noncomputable def slices_IndexFunc___impl_Slot_impl_Slot__i1 (a0 : (List Slot)) (a100 : Int) (a101 : Bool) (a102 : Int) : Option (Int) :=
  ((iter (fun s => slices_IndexFunc___impl_Slot_impl_Slot__i1_loop1 a0 a100 a101 a102 s) (0 : Int)).bind (Sum.elim (fun r7 => (some r7)) (fun r8 => (some ((-1) : Int)))))
def slices_IndexFunc___impl_Slot_impl_Slot__i1.res (_ : (List Slot)) (_ : Int) (_ : Bool) (_ : Int) (y : Int) : AV := (.v (.int .i64 y))
def slices_IndexFunc___impl_Slot_impl_Slot__i1.out (_ : (List Slot)) (_ : Int) (_ : Bool) (_ : Int) (_ : Int) : List (Option LB) := []
def slices_IndexFunc___impl_Slot_impl_Slot__i1.S (ar : List AV) (h : List (Option LB)) (r : AV) (h1 : List (Option LB)) : Prop := ∃ a0 a100 a101 a102 y, slices_IndexFunc___impl_Slot_impl_Slot__i1 a0 a100 a101 a102 = some y ∧ leL ar [(.tree ty_Slot a0), (.fn 62 [(.bptr [(.v (.int .i64 a100)), (.bl a101), (.v (.int .i64 a102))] 0)])] ∧ leH h [] ∧ r = slices_IndexFunc___impl_Slot_impl_Slot__i1.res a0 a100 a101 a102 y ∧ h1 = slices_IndexFunc___impl_Slot_impl_Slot__i1.out a0 a100 a101 a102 y
theorem slices_IndexFunc___impl_Slot_impl_Slot__i1.call {ar : List AV} {h : List (Option LB)} {a0 : (List Slot)} {a100 : Int} {a101 : Bool} {a102 : Int} {y : Int} (H : slices_IndexFunc___impl_Slot_impl_Slot__i1 a0 a100 a101 a102 = some y) (h1 : leL ar [(.tree ty_Slot a0), (.fn 62 [(.bptr [(.v (.int .i64 a100)), (.bl a101), (.v (.int .i64 a102))] 0)])]) (h2 : leH h []) : slices_IndexFunc___impl_Slot_impl_Slot__i1.S ar h (slices_IndexFunc___impl_Slot_impl_Slot__i1.res a0 a100 a101 a102 y) (slices_IndexFunc___impl_Slot_impl_Slot__i1.out a0 a100 a101 a102 y) := ⟨a0, a100, a101, a102, y, H, h1, h2, rfl, rfl⟩
set_option maxHeartbeats 4000000 in
set_option maxRecDepth 100000 in
theorem slices_IndexFunc___impl_Slot_impl_Slot__i1.spec (a0 : (List Slot)) (a100 : Int) (a101 : Bool) (a102 : Int) (y : Int) (H : slices_IndexFunc___impl_Slot_impl_Slot__i1 a0 a100 a101 a102 = some y) : Spec Try.prog 87 [(.tree ty_Slot a0), (.fn 62 [(.bptr [(.v (.int .i64 a100)), (.bl a101), (.v (.int .i64 a102))] 0)])] [] (slices_IndexFunc___impl_Slot_impl_Slot__i1.res a0 a100 a101 a102 y) (slices_IndexFunc___impl_Slot_impl_Slot__i1.out a0 a100 a101 a102 y) := by
  refine spec_intro G12_ok (ct := []) Try.func87 rfl (by kernel_rfl) (by kernel_rfl) rfl ?_
  repeat' first
    | ((with_reducible refine eqg ?_); exact rfl)
    | ((with_reducible refine KOb.mk ?_); kernel_rfl)
    | ((with_reducible intro h); (repeat (first | replace H := grd_k H | replace H := out_step H (by assumption))); first | replace H := cond_t h H | replace H := cond_f h H)
    | ((with_reducible refine Ob.mk ?_); first | rfl | (repeat (first | exact grd_p H | replace H := grd_k H | replace H := out_step H (by assumption))))
    | (with_reducible exact True.intro)
    | constructor
    | ((conv => whnf); first
        | ((with_reducible refine Ob.mk ?_); first | rfl | (repeat (first | exact grd_p H | replace H := grd_k H | replace H := out_step H (by assumption))))
        | ((with_reducible refine CallW.mk ?_); (repeat (first | replace H := grd_k H | replace H := out_step H (by assumption))); obtain ⟨y, hy, H⟩ := bind_some H; first | ((with_reducible have hz : impl_IsRopeway_1_i1 _ _ _ _ = some y := hy); clear hz; refine Exists.intro _ (Exists.intro _ ⟨impl_IsRopeway_1_i1.call hy ?_ ?_, rfl, rfl, ?_⟩)))
        | ((repeat (first | replace H := grd_k H | replace H := out_step H (by assumption))); refine loop_iter G12_ok (ct := []) (F := (fun s1 : Int => ⟨sl [(0, (.tree ty_Slot a0)), (1, (.fn 62 [(.bptr [(.v (.int .i64 a100)), (.bl a101), (.v (.int .i64 a102))] 0)])), (7, (.v (.int .i64 (a0.length : Int)))), (8, (.v (.int .i64 s1)))], []⟩)) (step := (fun s : Int => slices_IndexFunc___impl_Slot_impl_Slot__i1_loop1 _ _ _ _ s)) _ H (by kernel_rfl) (sub_auto ?_) ?_; rotate_left; (intro s1 r v hr H); rotate_right)
        | ((repeat (first | replace H := grd_k H | replace H := out_step H (by assumption))); refine again_step H (by assumption) (sub_auto ?_))
        | ((with_reducible refine fin_mk ?_); (repeat (first | replace H := grd_k H | replace H := out_step H (by assumption))); have H := Option.some.inj H; subst H))
def G13 : Env := G12.add 87 [] slices_IndexFunc___impl_Slot_impl_Slot__i1.S
theorem G13_ok : EnvOk Try.prog G13 := G12_ok.add ent_87 fun ar h r h1 ⟨a0, a100, a101, a102, y, hy, e1, e2, e3, e4⟩ => by
  subst e3 e4; exact (slices_IndexFunc___impl_Slot_impl_Slot__i1.spec a0 a100 a101 a102 y hy).le e1 e2
attribute [local irreducible] slices_IndexFunc___impl_Slot_impl_Slot__i1

noncomputable def slices_ContainsFunc___impl_Slot_impl_Slot__i1 (a0 : (List Slot)) (a100 : Int) (a101 : Bool) (a102 : Int) : Option (Bool) :=
  ((slices_IndexFunc___impl_Slot_impl_Slot__i1 a0 a100 a101 a102).bind fun y1 => (some (decide ((0 : Int) ≤ y1))))
def slices_ContainsFunc___impl_Slot_impl_Slot__i1.res (_ : (List Slot)) (_ : Int) (_ : Bool) (_ : Int) (y : Bool) : AV := (.bl y)
def slices_ContainsFunc___impl_Slot_impl_Slot__i1.out (_ : (List Slot)) (_ : Int) (_ : Bool) (_ : Int) (_ : Bool) : List (Option LB) := []
def slices_ContainsFunc___impl_Slot_impl_Slot__i1.S (ar : List AV) (h : List (Option LB)) (r : AV) (h1 : List (Option LB)) : Prop := ∃ a0 a100 a101 a102 y, slices_ContainsFunc___impl_Slot_impl_Slot__i1 a0 a100 a101 a102 = some y ∧ leL ar [(.tree ty_Slot a0), (.fn 62 [(.bptr [(.v (.int .i64 a100)), (.bl a101), (.v (.int .i64 a102))] 0)])] ∧ leH h [] ∧ r = slices_ContainsFunc___impl_Slot_impl_Slot__i1.res a0 a100 a101 a102 y ∧ h1 = slices_ContainsFunc___impl_Slot_impl_Slot__i1.out a0 a100 a101 a102 y
theorem slices_ContainsFunc___impl_Slot_impl_Slot__i1.call {ar : List AV} {h : List (Option LB)} {a0 : (List Slot)} {a100 : Int} {a101 : Bool} {a102 : Int} {y : Bool} (H : slices_ContainsFunc___impl_Slot_impl_Slot__i1 a0 a100 a101 a102 = some y) (h1 : leL ar [(.tree ty_Slot a0), (.fn 62 [(.bptr [(.v (.int .i64 a100)), (.bl a101), (.v (.int .i64 a102))] 0)])]) (h2 : leH h []) : slices_ContainsFunc___impl_Slot_impl_Slot__i1.S ar h (slices_ContainsFunc___impl_Slot_impl_Slot__i1.res a0 a100 a101 a102 y) (slices_ContainsFunc___impl_Slot_impl_Slot__i1.out a0 a100 a101 a102 y) := ⟨a0, a100, a101, a102, y, H, h1, h2, rfl, rfl⟩
set_option maxHeartbeats 4000000 in
set_option maxRecDepth 100000 in
theorem slices_ContainsFunc___impl_Slot_impl_Slot__i1.spec (a0 : (List Slot)) (a100 : Int) (a101 : Bool) (a102 : Int) (y : Bool) (H : slices_ContainsFunc___impl_Slot_impl_Slot__i1 a0 a100 a101 a102 = some y) : Spec Try.prog 61 [(.tree ty_Slot a0), (.fn 62 [(.bptr [(.v (.int .i64 a100)), (.bl a101), (.v (.int .i64 a102))] 0)])] [] (slices_ContainsFunc___impl_Slot_impl_Slot__i1.res a0 a100 a101 a102 y) (slices_ContainsFunc___impl_Slot_impl_Slot__i1.out a0 a100 a101 a102 y) := by
  refine spec_intro G13_ok (ct := []) Try.func61 rfl (by kernel_rfl) (by kernel_rfl) rfl ?_
  repeat' first
    | ((with_reducible refine eqg ?_); exact rfl)
    | ((with_reducible refine KOb.mk ?_); kernel_rfl)
    | ((with_reducible intro h); (repeat (first | replace H := grd_k H | replace H := out_step H (by assumption))); first | replace H := cond_t h H | replace H := cond_f h H)
    | ((with_reducible refine Ob.mk ?_); first | rfl | (repeat (first | exact grd_p H | replace H := grd_k H | replace H := out_step H (by assumption))))
    | (with_reducible exact True.intro)
    | constructor
    | ((conv => whnf); first
        | ((with_reducible refine Ob.mk ?_); first | rfl | (repeat (first | exact grd_p H | replace H := grd_k H | replace H := out_step H (by assumption))))
        | ((with_reducible refine CallW.mk ?_); (repeat (first | replace H := grd_k H | replace H := out_step H (by assumption))); obtain ⟨y, hy, H⟩ := bind_some H; first | ((with_reducible have hz : slices_IndexFunc___impl_Slot_impl_Slot__i1 _ _ _ _ = some y := hy); clear hz; refine Exists.intro _ (Exists.intro _ ⟨slices_IndexFunc___impl_Slot_impl_Slot__i1.call hy ?_ ?_, rfl, rfl, ?_⟩)))
        | ((with_reducible refine fin_mk ?_); (repeat (first | replace H := grd_k H | replace H := out_step H (by assumption))); have H := Option.some.inj H; subst H))
def G14 : Env := G13.add 61 [] slices_ContainsFunc___impl_Slot_impl_Slot__i1.S
theorem G14_ok : EnvOk Try.prog G14 := G13_ok.add ent_61 fun ar h r h1 ⟨a0, a100, a101, a102, y, hy, e1, e2, e3, e4⟩ => by
  subst e3 e4; exact (slices_ContainsFunc___impl_Slot_impl_Slot__i1.spec a0 a100 a101 a102 y hy).le e1 e2
attribute [local irreducible] slices_ContainsFunc___impl_Slot_impl_Slot__i1

noncomputable def impl_IsRopeway_loop1 (a0 : Ropeway) (v22 : Int) : Option (Lp (Int) ((Unit) ⊕ (Unit))) :=
  (cond (decide (v22 < (a0.2.1.length : Int))) (grd (0 ≤ v22 ∧ v22 < (a0.2.1.length : Int)) ((impl_within ((a0.2.1.getD v22.toNat d_Slot).1) (0 : Int) (20 : Int)).bind fun y23 => (cond (!y23) ((some (.out (Sum.inl ())))) ((impl_within ((a0.2.1.getD v22.toNat d_Slot).2.2.1) (0 : Int) (8 : Int)).bind fun y24 => (cond (!y24) ((some (.out (Sum.inl ())))) (cond (decide (((a0.2.1.getD v22.toNat d_Slot).1) = (0 : Int))) (cond ((a0.2.1.getD v22.toNat d_Slot).2.1) ((some (.out (Sum.inl ())))) (cond (decide ((0 : Int) < ((a0.2.1.getD v22.toNat d_Slot).2.2.1))) ((some (.out (Sum.inl ())))) (some (.go (w64 (v22 + (1 : Int))))))) (cond ((a0.2.1.getD v22.toNat d_Slot).2.1) ((impl_Ropeway_isStation (a0.1, a0.2.1, a0.2.2.1, a0.2.2.2.1, a0.2.2.2.2.1, ()) v22).bind fun y25 => (cond (!y25) ((some (.out (Sum.inl ())))) (grd ((a0.2.1.length : Int) ≠ 0) (grd (0 ≤ (Int.tmod (w64 (v22 + (1 : Int))) (a0.2.1.length : Int)) ∧ (Int.tmod (w64 (v22 + (1 : Int))) (a0.2.1.length : Int)) < (a0.2.1.length : Int)) (cond (decide ((0 : Int) < ((a0.2.1.getD ((Int.tmod (w64 (v22 + (1 : Int))) (a0.2.1.length : Int)).toNat) d_Slot).1))) ((some (.out (Sum.inl ())))) (grd (0 ≤ (0 : Int) ∧ (0 : Int) ≤ v22 ∧ v22 ≤ (a0.2.1.length : Int)) ((slices_ContainsFunc___impl_Slot_impl_Slot__i1 (lsub a0.2.1 (0 : Int) v22) ((a0.2.1.getD v22.toNat d_Slot).1) ((a0.2.1.getD v22.toNat d_Slot).2.1) ((a0.2.1.getD v22.toNat d_Slot).2.2.1)).bind fun y26 => (cond y26 ((some (.out (Sum.inl ())))) (some (.go (w64 (v22 + (1 : Int))))))))))))) (grd ((a0.2.1.length : Int) ≠ 0) (grd (0 ≤ (Int.tmod (w64 (v22 + (1 : Int))) (a0.2.1.length : Int)) ∧ (Int.tmod (w64 (v22 + (1 : Int))) (a0.2.1.length : Int)) < (a0.2.1.length : Int)) (cond (decide ((0 : Int) < ((a0.2.1.getD ((Int.tmod (w64 (v22 + (1 : Int))) (a0.2.1.length : Int)).toNat) d_Slot).1))) ((some (.out (Sum.inl ())))) (grd (0 ≤ (0 : Int) ∧ (0 : Int) ≤ v22 ∧ v22 ≤ (a0.2.1.length : Int)) ((slices_ContainsFunc___impl_Slot_impl_Slot__i1 (lsub a0.2.1 (0 : Int) v22) ((a0.2.1.getD v22.toNat d_Slot).1) ((a0.2.1.getD v22.toNat d_Slot).2.1) ((a0.2.1.getD v22.toNat d_Slot).2.2.1)).bind fun y27 => (cond y27 ((some (.out (Sum.inl ())))) (some (.go (w64 (v22 + (1 : Int)))))))))))))))))) ((some (.out (Sum.inr ())))))
noncomputable def impl_IsRopeway (a0 : Ropeway) : Option (Bool) :=
  ((impl_within a0.1 (0 : Int) (3 : Int)).bind fun y1 => (cond (!y1) ((some false)) ((impl_within (a0.2.1.length : Int) (4 : Int) (10 : Int)).bind fun y2 => (cond (!y2) ((some false)) (grd ((2 : Int) ≠ 0) (cond (!decide ((Int.tmod (a0.2.1.length : Int) (2 : Int)) = (0 : Int))) ((some false)) ((impl_within a0.2.2.1 (0 : Int) (500 : Int)).bind fun y3 => (cond (!y3) ((some false)) ((impl_within a0.2.2.2.1 (0 : Int) (500 : Int)).bind fun y4 => (cond (!y4) ((some false)) ((impl_within a0.2.2.2.2.1 (0 : Int) (500 : Int)).bind fun y5 => (cond (!y5) ((some false)) ((iter (fun s => impl_IsRopeway_loop1 a0 s) (0 : Int)).bind (Sum.elim (fun r29 => (some false)) (fun r30 => (some true))))))))))))))))
def impl_IsRopeway.res (_ : Ropeway) (y : Bool) : AV := (.bl y)
def impl_IsRopeway.out (_ : Ropeway) (_ : Bool) : List (Option LB) := []
def impl_IsRopeway.S (ar : List AV) (h : List (Option LB)) (r : AV) (h1 : List (Option LB)) : Prop := ∃ a0 y, impl_IsRopeway a0 = some y ∧ leL ar [(.agg [(.v (.int .i64 a0.1)), (.tree ty_Slot a0.2.1), (.v (.int .i64 a0.2.2.1)), (.v (.int .i64 a0.2.2.2.1)), (.v (.int .i64 a0.2.2.2.2.1))])] ∧ leH h [] ∧ r = impl_IsRopeway.res a0 y ∧ h1 = impl_IsRopeway.out a0 y
theorem impl_IsRopeway.call {ar : List AV} {h : List (Option LB)} {a0 : Ropeway} {y : Bool} (H : impl_IsRopeway a0 = some y) (h1 : leL ar [(.agg [(.v (.int .i64 a0.1)), (.tree ty_Slot a0.2.1), (.v (.int .i64 a0.2.2.1)), (.v (.int .i64 a0.2.2.2.1)), (.v (.int .i64 a0.2.2.2.2.1))])]) (h2 : leH h []) : impl_IsRopeway.S ar h (impl_IsRopeway.res a0 y) (impl_IsRopeway.out a0 y) := ⟨a0, y, H, h1, h2, rfl, rfl⟩
set_option maxHeartbeats 4000000 in
set_option maxRecDepth 100000 in
theorem impl_IsRopeway.spec (a0 : Ropeway) (y : Bool) (H : impl_IsRopeway a0 = some y) : Spec Try.prog 17 [(.agg [(.v (.int .i64 a0.1)), (.tree ty_Slot a0.2.1), (.v (.int .i64 a0.2.2.1)), (.v (.int .i64 a0.2.2.2.1)), (.v (.int .i64 a0.2.2.2.2.1))])] [] (impl_IsRopeway.res a0 y) (impl_IsRopeway.out a0 y) := by
  refine spec_intro G14_ok (ct := []) Try.func17 rfl (by kernel_rfl) (by kernel_rfl) rfl ?_
  repeat' first
    | ((with_reducible refine eqg ?_); exact rfl)
    | ((with_reducible refine KOb.mk ?_); kernel_rfl)
    | ((with_reducible intro h); (repeat (first | replace H := grd_k H | replace H := out_step H (by assumption))); first | replace H := cond_t h H | replace H := cond_f h H)
    | ((with_reducible refine Ob.mk ?_); first | rfl | (repeat (first | exact grd_p H | replace H := grd_k H | replace H := out_step H (by assumption))))
    | (with_reducible exact True.intro)
    | constructor
    | ((conv => whnf); first
        | ((with_reducible refine Ob.mk ?_); first | rfl | (repeat (first | exact grd_p H | replace H := grd_k H | replace H := out_step H (by assumption))))
        | ((with_reducible refine CallW.mk ?_); (repeat (first | replace H := grd_k H | replace H := out_step H (by assumption))); obtain ⟨y, hy, H⟩ := bind_some H; first | ((with_reducible have hz : impl_within _ _ _ = some y := hy); clear hz; refine Exists.intro _ (Exists.intro _ ⟨impl_within.call hy ?_ ?_, rfl, rfl, ?_⟩)) | ((with_reducible have hz : impl_Ropeway_isStation _ _ = some y := hy); clear hz; refine Exists.intro _ (Exists.intro _ ⟨impl_Ropeway_isStation.call hy ?_ ?_, rfl, rfl, ?_⟩)) | ((with_reducible have hz : slices_ContainsFunc___impl_Slot_impl_Slot__i1 _ _ _ _ = some y := hy); clear hz; refine Exists.intro _ (Exists.intro _ ⟨slices_ContainsFunc___impl_Slot_impl_Slot__i1.call hy ?_ ?_, rfl, rfl, ?_⟩)))
        | ((repeat (first | replace H := grd_k H | replace H := out_step H (by assumption))); refine loop_iter G14_ok (ct := []) (F := (fun s1 : Int => ⟨sl [(1, (.loc 0 0 0)), (3, (.v (.int .i64 (a0.2.1.length : Int)))), (42, (.tree ty_Slot a0.2.1)), (43, (.v (.int .i64 (a0.2.1.length : Int)))), (44, (.v (.int .i64 s1)))], [some (.box 29 [(.v (.int .i64 a0.1)), (.tree ty_Slot a0.2.1), (.v (.int .i64 a0.2.2.1)), (.v (.int .i64 a0.2.2.2.1)), (.v (.int .i64 a0.2.2.2.2.1))])]⟩)) (step := (fun s : Int => impl_IsRopeway_loop1 _ s)) _ H (by kernel_rfl) (sub_auto ?_) ?_; rotate_left; (intro s1 r v hr H); rotate_right)
        | ((repeat (first | replace H := grd_k H | replace H := out_step H (by assumption))); refine again_step H (by assumption) (sub_auto ?_))
        | ((with_reducible refine fin_mk ?_); (repeat (first | replace H := grd_k H | replace H := out_step H (by assumption))); have H := Option.some.inj H; subst H))
def G15 : Env := G14.add 17 [] impl_IsRopeway.S
theorem G15_ok : EnvOk Try.prog G15 := G14_ok.add ent_17 fun ar h r h1 ⟨a0, y, hy, e1, e2, e3, e4⟩ => by
  subst e3 e4; exact (impl_IsRopeway.spec a0 y hy).le e1 e2
attribute [local irreducible] impl_IsRopeway

noncomputable def laws_eqSlot (a0 : Slot) (a1 : Slot) : Option (Bool) :=
  (cond (!decide (a0.1 = a1.1)) ((some false)) (cond (!(a0.2.1 == a1.2.1)) ((some false)) (cond (!decide (a0.2.2.1 = a1.2.2.1)) ((some false)) ((some true)))))
def laws_eqSlot.res (_ : Slot) (_ : Slot) (y : Bool) : AV := (.bl y)
def laws_eqSlot.out (_ : Slot) (_ : Slot) (_ : Bool) : List (Option LB) := []
def laws_eqSlot.S (ar : List AV) (h : List (Option LB)) (r : AV) (h1 : List (Option LB)) : Prop := ∃ a0 a1 y, laws_eqSlot a0 a1 = some y ∧ leL ar [(.agg [(.v (.int .i64 a0.1)), (.bl a0.2.1), (.v (.int .i64 a0.2.2.1))]), (.agg [(.v (.int .i64 a1.1)), (.bl a1.2.1), (.v (.int .i64 a1.2.2.1))])] ∧ leH h [] ∧ r = laws_eqSlot.res a0 a1 y ∧ h1 = laws_eqSlot.out a0 a1 y
theorem laws_eqSlot.call {ar : List AV} {h : List (Option LB)} {a0 : Slot} {a1 : Slot} {y : Bool} (H : laws_eqSlot a0 a1 = some y) (h1 : leL ar [(.agg [(.v (.int .i64 a0.1)), (.bl a0.2.1), (.v (.int .i64 a0.2.2.1))]), (.agg [(.v (.int .i64 a1.1)), (.bl a1.2.1), (.v (.int .i64 a1.2.2.1))])]) (h2 : leH h []) : laws_eqSlot.S ar h (laws_eqSlot.res a0 a1 y) (laws_eqSlot.out a0 a1 y) := ⟨a0, a1, y, H, h1, h2, rfl, rfl⟩
set_option maxHeartbeats 4000000 in
set_option maxRecDepth 100000 in
theorem laws_eqSlot.spec (a0 : Slot) (a1 : Slot) (y : Bool) (H : laws_eqSlot a0 a1 = some y) : Spec Try.prog 88 [(.agg [(.v (.int .i64 a0.1)), (.bl a0.2.1), (.v (.int .i64 a0.2.2.1))]), (.agg [(.v (.int .i64 a1.1)), (.bl a1.2.1), (.v (.int .i64 a1.2.2.1))])] [] (laws_eqSlot.res a0 a1 y) (laws_eqSlot.out a0 a1 y) := by
  refine spec_intro G15_ok (ct := []) Try.func88 rfl (by kernel_rfl) (by kernel_rfl) rfl ?_
  repeat' first
    | ((with_reducible refine eqg ?_); exact rfl)
    | ((with_reducible refine KOb.mk ?_); kernel_rfl)
    | ((with_reducible intro h); (repeat (first | replace H := grd_k H | replace H := out_step H (by assumption))); first | replace H := cond_t h H | replace H := cond_f h H)
    | ((with_reducible refine Ob.mk ?_); first | rfl | (repeat (first | exact grd_p H | replace H := grd_k H | replace H := out_step H (by assumption))))
    | (with_reducible exact True.intro)
    | constructor
    | ((conv => whnf); first
        | ((with_reducible refine Ob.mk ?_); first | rfl | (repeat (first | exact grd_p H | replace H := grd_k H | replace H := out_step H (by assumption))))
        | ((with_reducible refine fin_mk ?_); (repeat (first | replace H := grd_k H | replace H := out_step H (by assumption))); have H := Option.some.inj H; subst H))
def G16 : Env := G15.add 88 [] laws_eqSlot.S
theorem G16_ok : EnvOk Try.prog G16 := G15_ok.add ent_88 fun ar h r h1 ⟨a0, a1, y, hy, e1, e2, e3, e4⟩ => by
  subst e3 e4; exact (laws_eqSlot.spec a0 a1 y hy).le e1 e2
attribute [local irreducible] laws_eqSlot

noncomputable def laws_eqSlotS_loop1 (a0 : (List Slot)) (a1 : (List Slot)) (v4 : Int) : Option (Lp (Int) ((Unit) ⊕ (Unit))) :=
  (cond (decide (v4 < (a0.length : Int))) (grd (0 ≤ v4 ∧ v4 < (a0.length : Int)) (grd (0 ≤ v4 ∧ v4 < (a1.length : Int)) ((laws_eqSlot ((a0.getD v4.toNat d_Slot).1, (a0.getD v4.toNat d_Slot).2.1, (a0.getD v4.toNat d_Slot).2.2.1, ()) ((a1.getD v4.toNat d_Slot).1, (a1.getD v4.toNat d_Slot).2.1, (a1.getD v4.toNat d_Slot).2.2.1, ())).bind fun y5 => (cond (!y5) ((some (.out (Sum.inl ())))) (some (.go (w64 (v4 + (1 : Int))))))))) ((some (.out (Sum.inr ())))))
noncomputable def laws_eqSlotS (a0 : (List Slot)) (a1 : (List Slot)) : Option (Bool) :=
  (cond (!decide ((a0.length : Int) = (a1.length : Int))) ((some false)) ((iter (fun s => laws_eqSlotS_loop1 a0 a1 s) (0 : Int)).bind (Sum.elim (fun r7 => (some false)) (fun r8 => (some true)))))
def laws_eqSlotS.res (_ : (List Slot)) (_ : (List Slot)) (y : Bool) : AV := (.bl y)
def laws_eqSlotS.out (_ : (List Slot)) (_ : (List Slot)) (_ : Bool) : List (Option LB) := []
def laws_eqSlotS.S (ar : List AV) (h : List (Option LB)) (r : AV) (h1 : List (Option LB)) : Prop := ∃ a0 a1 y, laws_eqSlotS a0 a1 = some y ∧ leL ar [(.tree ty_Slot a0), (.tree ty_Slot a1)] ∧ leH h [] ∧ r = laws_eqSlotS.res a0 a1 y ∧ h1 = laws_eqSlotS.out a0 a1 y
theorem laws_eqSlotS.call {ar : List AV} {h : List (Option LB)} {a0 : (List Slot)} {a1 : (List Slot)} {y : Bool} (H : laws_eqSlotS a0 a1 = some y) (h1 : leL ar [(.tree ty_Slot a0), (.tree ty_Slot a1)]) (h2 : leH h []) : laws_eqSlotS.S ar h (laws_eqSlotS.res a0 a1 y) (laws_eqSlotS.out a0 a1 y) := ⟨a0, a1, y, H, h1, h2, rfl, rfl⟩
set_option maxHeartbeats 4000000 in
set_option maxRecDepth 100000 in
theorem laws_eqSlotS.spec (a0 : (List Slot)) (a1 : (List Slot)) (y : Bool) (H : laws_eqSlotS a0 a1 = some y) : Spec Try.prog 63 [(.tree ty_Slot a0), (.tree ty_Slot a1)] [] (laws_eqSlotS.res a0 a1 y) (laws_eqSlotS.out a0 a1 y) := by
  refine spec_intro G16_ok (ct := []) Try.func63 rfl (by kernel_rfl) (by kernel_rfl) rfl ?_
  repeat' first
    | ((with_reducible refine eqg ?_); exact rfl)
    | ((with_reducible refine KOb.mk ?_); kernel_rfl)
    | ((with_reducible intro h); (repeat (first | replace H := grd_k H | replace H := out_step H (by assumption))); first | replace H := cond_t h H | replace H := cond_f h H)
    | ((with_reducible refine Ob.mk ?_); first | rfl | (repeat (first | exact grd_p H | replace H := grd_k H | replace H := out_step H (by assumption))))
    | (with_reducible exact True.intro)
    | constructor
    | ((conv => whnf); first
        | ((with_reducible refine Ob.mk ?_); first | rfl | (repeat (first | exact grd_p H | replace H := grd_k H | replace H := out_step H (by assumption))))
        | ((with_reducible refine CallW.mk ?_); (repeat (first | replace H := grd_k H | replace H := out_step H (by assumption))); obtain ⟨y, hy, H⟩ := bind_some H; first | ((with_reducible have hz : laws_eqSlot _ _ = some y := hy); clear hz; refine Exists.intro _ (Exists.intro _ ⟨laws_eqSlot.call hy ?_ ?_, rfl, rfl, ?_⟩)))
        | ((repeat (first | replace H := grd_k H | replace H := out_step H (by assumption))); refine loop_iter G16_ok (ct := []) (F := (fun s1 : Int => ⟨sl [(0, (.tree ty_Slot a0)), (1, (.tree ty_Slot a1)), (5, (.v (.int .i64 s1)))], []⟩)) (step := (fun s : Int => laws_eqSlotS_loop1 _ _ s)) _ H (by kernel_rfl) (sub_auto ?_) ?_; rotate_left; (intro s1 r v hr H); rotate_right)
        | ((repeat (first | replace H := grd_k H | replace H := out_step H (by assumption))); refine again_step H (by assumption) (sub_auto ?_))
        | ((with_reducible refine fin_mk ?_); (repeat (first | replace H := grd_k H | replace H := out_step H (by assumption))); have H := Option.some.inj H; subst H))
def G17 : Env := G16.add 63 [] laws_eqSlotS.S
theorem G17_ok : EnvOk Try.prog G17 := G16_ok.add ent_63 fun ar h r h1 ⟨a0, a1, y, hy, e1, e2, e3, e4⟩ => by
  subst e3 e4; exact (laws_eqSlotS.spec a0 a1 y hy).le e1 e2
attribute [local irreducible] laws_eqSlotS

noncomputable def laws_eqRopeway (a0 : Ropeway) (a1 : Ropeway) : Option (Bool) :=
  (cond (!decide (a0.1 = a1.1)) ((some false)) ((laws_eqSlotS a0.2.1 a1.2.1).bind fun y1 => (cond (!y1) ((some false)) (cond (!decide (a0.2.2.1 = a1.2.2.1)) ((some false)) (cond (!decide (a0.2.2.2.1 = a1.2.2.2.1)) ((some false)) (cond (!decide (a0.2.2.2.2.1 = a1.2.2.2.2.1)) ((some false)) ((some true))))))))
def laws_eqRopeway.res (_ : Ropeway) (_ : Ropeway) (y : Bool) : AV := (.bl y)
def laws_eqRopeway.out (_ : Ropeway) (_ : Ropeway) (_ : Bool) : List (Option LB) := []
def laws_eqRopeway.S (ar : List AV) (h : List (Option LB)) (r : AV) (h1 : List (Option LB)) : Prop := ∃ a0 a1 y, laws_eqRopeway a0 a1 = some y ∧ leL ar [(.agg [(.v (.int .i64 a0.1)), (.tree ty_Slot a0.2.1), (.v (.int .i64 a0.2.2.1)), (.v (.int .i64 a0.2.2.2.1)), (.v (.int .i64 a0.2.2.2.2.1))]), (.agg [(.v (.int .i64 a1.1)), (.tree ty_Slot a1.2.1), (.v (.int .i64 a1.2.2.1)), (.v (.int .i64 a1.2.2.2.1)), (.v (.int .i64 a1.2.2.2.2.1))])] ∧ leH h [] ∧ r = laws_eqRopeway.res a0 a1 y ∧ h1 = laws_eqRopeway.out a0 a1 y
theorem laws_eqRopeway.call {ar : List AV} {h : List (Option LB)} {a0 : Ropeway} {a1 : Ropeway} {y : Bool} (H : laws_eqRopeway a0 a1 = some y) (h1 : leL ar [(.agg [(.v (.int .i64 a0.1)), (.tree ty_Slot a0.2.1), (.v (.int .i64 a0.2.2.1)), (.v (.int .i64 a0.2.2.2.1)), (.v (.int .i64 a0.2.2.2.2.1))]), (.agg [(.v (.int .i64 a1.1)), (.tree ty_Slot a1.2.1), (.v (.int .i64 a1.2.2.1)), (.v (.int .i64 a1.2.2.2.1)), (.v (.int .i64 a1.2.2.2.2.1))])]) (h2 : leH h []) : laws_eqRopeway.S ar h (laws_eqRopeway.res a0 a1 y) (laws_eqRopeway.out a0 a1 y) := ⟨a0, a1, y, H, h1, h2, rfl, rfl⟩
set_option maxHeartbeats 4000000 in
set_option maxRecDepth 100000 in
theorem laws_eqRopeway.spec (a0 : Ropeway) (a1 : Ropeway) (y : Bool) (H : laws_eqRopeway a0 a1 = some y) : Spec Try.prog 18 [(.agg [(.v (.int .i64 a0.1)), (.tree ty_Slot a0.2.1), (.v (.int .i64 a0.2.2.1)), (.v (.int .i64 a0.2.2.2.1)), (.v (.int .i64 a0.2.2.2.2.1))]), (.agg [(.v (.int .i64 a1.1)), (.tree ty_Slot a1.2.1), (.v (.int .i64 a1.2.2.1)), (.v (.int .i64 a1.2.2.2.1)), (.v (.int .i64 a1.2.2.2.2.1))])] [] (laws_eqRopeway.res a0 a1 y) (laws_eqRopeway.out a0 a1 y) := by
  refine spec_intro G17_ok (ct := []) Try.func18 rfl (by kernel_rfl) (by kernel_rfl) rfl ?_
  repeat' first
    | ((with_reducible refine eqg ?_); exact rfl)
    | ((with_reducible refine KOb.mk ?_); kernel_rfl)
    | ((with_reducible intro h); (repeat (first | replace H := grd_k H | replace H := out_step H (by assumption))); first | replace H := cond_t h H | replace H := cond_f h H)
    | ((with_reducible refine Ob.mk ?_); first | rfl | (repeat (first | exact grd_p H | replace H := grd_k H | replace H := out_step H (by assumption))))
    | (with_reducible exact True.intro)
    | constructor
    | ((conv => whnf); first
        | ((with_reducible refine Ob.mk ?_); first | rfl | (repeat (first | exact grd_p H | replace H := grd_k H | replace H := out_step H (by assumption))))
        | ((with_reducible refine CallW.mk ?_); (repeat (first | replace H := grd_k H | replace H := out_step H (by assumption))); obtain ⟨y, hy, H⟩ := bind_some H; first | ((with_reducible have hz : laws_eqSlotS _ _ = some y := hy); clear hz; refine Exists.intro _ (Exists.intro _ ⟨laws_eqSlotS.call hy ?_ ?_, rfl, rfl, ?_⟩)))
        | ((with_reducible refine fin_mk ?_); (repeat (first | replace H := grd_k H | replace H := out_step H (by assumption))); have H := Option.some.inj H; subst H))
def G18 : Env := G17.add 18 [] laws_eqRopeway.S
theorem G18_ok : EnvOk Try.prog G18 := G17_ok.add ent_18 fun ar h r h1 ⟨a0, a1, y, hy, e1, e2, e3, e4⟩ => by
  subst e3 e4; exact (laws_eqRopeway.spec a0 a1 y hy).le e1 e2
attribute [local irreducible] laws_eqRopeway

noncomputable def laws_FnExactIsRopeway (a0 : Ropeway) : Option (Bool) :=
  ((laws_szRopeway (a0.1, a0.2.1, a0.2.2.1, a0.2.2.2.1, a0.2.2.2.2.1, ()) (1048576 : Int)).bind fun y1 => (cond (decide (y1 < (0 : Int))) ((some true)) ((laws_toRopeway (a0.1, a0.2.1, a0.2.2.1, a0.2.2.2.1, a0.2.2.2.2.1, ())).bind fun y2 => ((spec_IsRopeway (y2.1, y2.2.1, y2.2.2.1, y2.2.2.2.1, y2.2.2.2.2.1, ())).bind fun y3 => ((laws_toRopeway (a0.1, a0.2.1, a0.2.2.1, a0.2.2.2.1, a0.2.2.2.2.1, ())).bind fun y4 => ((impl_IsRopeway (y4.1, y4.2.1, y4.2.2.1, y4.2.2.2.1, y4.2.2.2.2.1, ())).bind fun y5 => (cond (!(y5 == y3)) ((some false)) ((laws_toRopeway (a0.1, a0.2.1, a0.2.2.1, a0.2.2.2.1, a0.2.2.2.2.1, ())).bind fun y6 => ((laws_eqRopeway (y4.1, y4.2.1, y4.2.2.1, y4.2.2.2.1, y4.2.2.2.2.1, ()) (y6.1, y6.2.1, y6.2.2.1, y6.2.2.2.1, y6.2.2.2.2.1, ())).bind fun y7 => (cond (!y7) ((some false)) ((some true))))))))))))
def laws_FnExactIsRopeway.res (_ : Ropeway) (y : Bool) : AV := (.bl y)
def laws_FnExactIsRopeway.out (_ : Ropeway) (_ : Bool) : List (Option LB) := []
def laws_FnExactIsRopeway.S (ar : List AV) (h : List (Option LB)) (r : AV) (h1 : List (Option LB)) : Prop := ∃ a0 y, laws_FnExactIsRopeway a0 = some y ∧ leL ar [(.agg [(.v (.int .i64 a0.1)), (.tree ty_Slot a0.2.1), (.v (.int .i64 a0.2.2.1)), (.v (.int .i64 a0.2.2.2.1)), (.v (.int .i64 a0.2.2.2.2.1))])] ∧ leH h [] ∧ r = laws_FnExactIsRopeway.res a0 y ∧ h1 = laws_FnExactIsRopeway.out a0 y
theorem laws_FnExactIsRopeway.call {ar : List AV} {h : List (Option LB)} {a0 : Ropeway} {y : Bool} (H : laws_FnExactIsRopeway a0 = some y) (h1 : leL ar [(.agg [(.v (.int .i64 a0.1)), (.tree ty_Slot a0.2.1), (.v (.int .i64 a0.2.2.1)), (.v (.int .i64 a0.2.2.2.1)), (.v (.int .i64 a0.2.2.2.2.1))])]) (h2 : leH h []) : laws_FnExactIsRopeway.S ar h (laws_FnExactIsRopeway.res a0 y) (laws_FnExactIsRopeway.out a0 y) := ⟨a0, y, H, h1, h2, rfl, rfl⟩
set_option maxHeartbeats 4000000 in
set_option maxRecDepth 100000 in
theorem laws_FnExactIsRopeway.spec (a0 : Ropeway) (y : Bool) (H : laws_FnExactIsRopeway a0 = some y) : Spec Try.prog 3 [(.agg [(.v (.int .i64 a0.1)), (.tree ty_Slot a0.2.1), (.v (.int .i64 a0.2.2.1)), (.v (.int .i64 a0.2.2.2.1)), (.v (.int .i64 a0.2.2.2.2.1))])] [] (laws_FnExactIsRopeway.res a0 y) (laws_FnExactIsRopeway.out a0 y) := by
  refine spec_intro G18_ok (ct := []) Try.func3 rfl (by kernel_rfl) (by kernel_rfl) rfl ?_
  repeat' first
    | ((with_reducible refine eqg ?_); exact rfl)
    | ((with_reducible refine KOb.mk ?_); kernel_rfl)
    | ((with_reducible intro h); (repeat (first | replace H := grd_k H | replace H := out_step H (by assumption))); first | replace H := cond_t h H | replace H := cond_f h H)
    | ((with_reducible refine Ob.mk ?_); first | rfl | (repeat (first | exact grd_p H | replace H := grd_k H | replace H := out_step H (by assumption))))
    | (with_reducible exact True.intro)
    | constructor
    | ((conv => whnf); first
        | ((with_reducible refine Ob.mk ?_); first | rfl | (repeat (first | exact grd_p H | replace H := grd_k H | replace H := out_step H (by assumption))))
        | ((with_reducible refine CallW.mk ?_); (repeat (first | replace H := grd_k H | replace H := out_step H (by assumption))); obtain ⟨y, hy, H⟩ := bind_some H; first | ((with_reducible have hz : laws_szRopeway _ _ = some y := hy); clear hz; refine Exists.intro _ (Exists.intro _ ⟨laws_szRopeway.call hy ?_ ?_, rfl, rfl, ?_⟩)) | ((with_reducible have hz : laws_toRopeway _ = some y := hy); clear hz; refine Exists.intro _ (Exists.intro _ ⟨laws_toRopeway.call hy ?_ ?_, rfl, rfl, ?_⟩)) | ((with_reducible have hz : spec_IsRopeway _ = some y := hy); clear hz; refine Exists.intro _ (Exists.intro _ ⟨spec_IsRopeway.call hy ?_ ?_, rfl, rfl, ?_⟩)) | ((with_reducible have hz : impl_IsRopeway _ = some y := hy); clear hz; refine Exists.intro _ (Exists.intro _ ⟨impl_IsRopeway.call hy ?_ ?_, rfl, rfl, ?_⟩)) | ((with_reducible have hz : laws_eqRopeway _ _ = some y := hy); clear hz; refine Exists.intro _ (Exists.intro _ ⟨laws_eqRopeway.call hy ?_ ?_, rfl, rfl, ?_⟩)))
        | ((with_reducible refine fin_mk ?_); (repeat (first | replace H := grd_k H | replace H := out_step H (by assumption))); have H := Option.some.inj H; subst H))
def G19 : Env := G18.add 3 [] laws_FnExactIsRopeway.S
theorem G19_ok : EnvOk Try.prog G19 := G18_ok.add ent_3 fun ar h r h1 ⟨a0, y, hy, e1, e2, e3, e4⟩ => by
  subst e3 e4; exact (laws_FnExactIsRopeway.spec a0 y hy).le e1 e2
attribute [local irreducible] laws_FnExactIsRopeway

noncomputable def spec_l25Find_loop1 (a0 : Ropeway) (a1 : Int) (v2 : Int) : Option (Lp (Int) ((Int) ⊕ (Unit))) :=
  (cond (decide (v2 < (a0.2.1.length : Int))) (grd (0 ≤ v2 ∧ v2 < (a0.2.1.length : Int)) (cond (decide (((a0.2.1.getD v2.toNat d_Slot).1) = a1)) ((some (.out (Sum.inl v2)))) (some (.go (w64 (v2 + (1 : Int))))))) ((some (.out (Sum.inr ())))))
noncomputable def spec_l25Find (a0 : Ropeway) (a1 : Int) : Option (Int) :=
  ((iter (fun s => spec_l25Find_loop1 a0 a1 s) (0 : Int)).bind (Sum.elim (fun r4 => (some r4)) (fun r5 => (some ((-1) : Int)))))
def spec_l25Find.res (_ : Ropeway) (_ : Int) (y : Int) : AV := (.v (.int .i64 y))
def spec_l25Find.out (_ : Ropeway) (_ : Int) (_ : Int) : List (Option LB) := []
def spec_l25Find.S (ar : List AV) (h : List (Option LB)) (r : AV) (h1 : List (Option LB)) : Prop := ∃ a0 a1 y, spec_l25Find a0 a1 = some y ∧ leL ar [(.agg [(.v (.int .i64 a0.1)), (.tree ty_Slot a0.2.1), (.v (.int .i64 a0.2.2.1)), (.v (.int .i64 a0.2.2.2.1)), (.v (.int .i64 a0.2.2.2.2.1))]), (.v (.int .i64 a1))] ∧ leH h [] ∧ r = spec_l25Find.res a0 a1 y ∧ h1 = spec_l25Find.out a0 a1 y
theorem spec_l25Find.call {ar : List AV} {h : List (Option LB)} {a0 : Ropeway} {a1 : Int} {y : Int} (H : spec_l25Find a0 a1 = some y) (h1 : leL ar [(.agg [(.v (.int .i64 a0.1)), (.tree ty_Slot a0.2.1), (.v (.int .i64 a0.2.2.1)), (.v (.int .i64 a0.2.2.2.1)), (.v (.int .i64 a0.2.2.2.2.1))]), (.v (.int .i64 a1))]) (h2 : leH h []) : spec_l25Find.S ar h (spec_l25Find.res a0 a1 y) (spec_l25Find.out a0 a1 y) := ⟨a0, a1, y, H, h1, h2, rfl, rfl⟩
set_option maxHeartbeats 4000000 in
set_option maxRecDepth 100000 in
theorem spec_l25Find.spec (a0 : Ropeway) (a1 : Int) (y : Int) (H : spec_l25Find a0 a1 = some y) : Spec Try.prog 79 [(.agg [(.v (.int .i64 a0.1)), (.tree ty_Slot a0.2.1), (.v (.int .i64 a0.2.2.1)), (.v (.int .i64 a0.2.2.2.1)), (.v (.int .i64 a0.2.2.2.2.1))]), (.v (.int .i64 a1))] [] (spec_l25Find.res a0 a1 y) (spec_l25Find.out a0 a1 y) := by
  refine spec_intro G19_ok (ct := []) Try.func79 rfl (by kernel_rfl) (by kernel_rfl) rfl ?_
  repeat' first
    | ((with_reducible refine eqg ?_); exact rfl)
    | ((with_reducible refine KOb.mk ?_); kernel_rfl)
    | ((with_reducible intro h); (repeat (first | replace H := grd_k H | replace H := out_step H (by assumption))); first | replace H := cond_t h H | replace H := cond_f h H)
    | ((with_reducible refine Ob.mk ?_); first | rfl | (repeat (first | exact grd_p H | replace H := grd_k H | replace H := out_step H (by assumption))))
    | (with_reducible exact True.intro)
    | constructor
    | ((conv => whnf); first
        | ((with_reducible refine Ob.mk ?_); first | rfl | (repeat (first | exact grd_p H | replace H := grd_k H | replace H := out_step H (by assumption))))
        | ((repeat (first | replace H := grd_k H | replace H := out_step H (by assumption))); refine loop_iter G19_ok (ct := []) (F := (fun s1 : Int => ⟨sl [(1, (.v (.int .i64 a1))), (2, (.loc 0 0 0)), (5, (.v (.int .i64 s1)))], [some (.box 29 [(.v (.int .i64 a0.1)), (.tree ty_Slot a0.2.1), (.v (.int .i64 a0.2.2.1)), (.v (.int .i64 a0.2.2.2.1)), (.v (.int .i64 a0.2.2.2.2.1))])]⟩)) (step := (fun s : Int => spec_l25Find_loop1 _ _ s)) _ H (by kernel_rfl) (sub_auto ?_) ?_; rotate_left; (intro s1 r v hr H); rotate_right)
        | ((repeat (first | replace H := grd_k H | replace H := out_step H (by assumption))); refine again_step H (by assumption) (sub_auto ?_))
        | ((with_reducible refine fin_mk ?_); (repeat (first | replace H := grd_k H | replace H := out_step H (by assumption))); have H := Option.some.inj H; subst H))
def G20 : Env := G19.add 79 [] spec_l25Find.S
theorem G20_ok : EnvOk Try.prog G20 := G19_ok.add ent_79 fun ar h r h1 ⟨a0, a1, y, hy, e1, e2, e3, e4⟩ => by
  subst e3 e4; exact (spec_l25Find.spec a0 a1 y hy).le e1 e2
attribute [local irreducible] spec_l25Find

noncomputable def spec_CabinAt (a0 : Ropeway) (a1 : Int) : Option (Int × Bool) :=
  ((spec_l25Good (a0.1, a0.2.1, a0.2.2.1, a0.2.2.2.1, a0.2.2.2.2.1, ())).bind fun y1 => (cond (!y1) ((some ((0 : Int), false))) (cond (decide (a1 < (1 : Int))) ((some ((0 : Int), false))) ((spec_l25Find (a0.1, a0.2.1, a0.2.2.1, a0.2.2.2.1, a0.2.2.2.2.1, ()) a1).bind fun y2 => (cond (decide (y2 < (0 : Int))) ((some ((0 : Int), false))) ((spec_l25Find (a0.1, a0.2.1, a0.2.2.1, a0.2.2.2.1, a0.2.2.2.2.1, ()) a1).bind fun y3 => (some (y3, true))))))))
def spec_CabinAt.res (_ : Ropeway) (_ : Int) (y : Int × Bool) : AV := (.tup [(.v (.int .i64 y.1)), (.bl y.2)])
def spec_CabinAt.out (_ : Ropeway) (_ : Int) (_ : Int × Bool) : List (Option LB) := []
def spec_CabinAt.S (ar : List AV) (h : List (Option LB)) (r : AV) (h1 : List (Option LB)) : Prop := ∃ a0 a1 y, spec_CabinAt a0 a1 = some y ∧ leL ar [(.agg [(.v (.int .i64 a0.1)), (.tree ty_Slot a0.2.1), (.v (.int .i64 a0.2.2.1)), (.v (.int .i64 a0.2.2.2.1)), (.v (.int .i64 a0.2.2.2.2.1))]), (.v (.int .i64 a1))] ∧ leH h [] ∧ r = spec_CabinAt.res a0 a1 y ∧ h1 = spec_CabinAt.out a0 a1 y
theorem spec_CabinAt.call {ar : List AV} {h : List (Option LB)} {a0 : Ropeway} {a1 : Int} {y : Int × Bool} (H : spec_CabinAt a0 a1 = some y) (h1 : leL ar [(.agg [(.v (.int .i64 a0.1)), (.tree ty_Slot a0.2.1), (.v (.int .i64 a0.2.2.1)), (.v (.int .i64 a0.2.2.2.1)), (.v (.int .i64 a0.2.2.2.2.1))]), (.v (.int .i64 a1))]) (h2 : leH h []) : spec_CabinAt.S ar h (spec_CabinAt.res a0 a1 y) (spec_CabinAt.out a0 a1 y) := ⟨a0, a1, y, H, h1, h2, rfl, rfl⟩
set_option maxHeartbeats 4000000 in
set_option maxRecDepth 100000 in
theorem spec_CabinAt.spec (a0 : Ropeway) (a1 : Int) (y : Int × Bool) (H : spec_CabinAt a0 a1 = some y) : Spec Try.prog 34 [(.agg [(.v (.int .i64 a0.1)), (.tree ty_Slot a0.2.1), (.v (.int .i64 a0.2.2.1)), (.v (.int .i64 a0.2.2.2.1)), (.v (.int .i64 a0.2.2.2.2.1))]), (.v (.int .i64 a1))] [] (spec_CabinAt.res a0 a1 y) (spec_CabinAt.out a0 a1 y) := by
  refine spec_intro G20_ok (ct := []) Try.func34 rfl (by kernel_rfl) (by kernel_rfl) rfl ?_
  repeat' first
    | ((with_reducible refine eqg ?_); exact rfl)
    | ((with_reducible refine KOb.mk ?_); kernel_rfl)
    | ((with_reducible intro h); (repeat (first | replace H := grd_k H | replace H := out_step H (by assumption))); first | replace H := cond_t h H | replace H := cond_f h H)
    | ((with_reducible refine Ob.mk ?_); first | rfl | (repeat (first | exact grd_p H | replace H := grd_k H | replace H := out_step H (by assumption))))
    | (with_reducible exact True.intro)
    | constructor
    | ((conv => whnf); first
        | ((with_reducible refine Ob.mk ?_); first | rfl | (repeat (first | exact grd_p H | replace H := grd_k H | replace H := out_step H (by assumption))))
        | ((with_reducible refine CallW.mk ?_); (repeat (first | replace H := grd_k H | replace H := out_step H (by assumption))); obtain ⟨y, hy, H⟩ := bind_some H; first | ((with_reducible have hz : spec_l25Good _ = some y := hy); clear hz; refine Exists.intro _ (Exists.intro _ ⟨spec_l25Good.call hy ?_ ?_, rfl, rfl, ?_⟩)) | ((with_reducible have hz : spec_l25Find _ _ = some y := hy); clear hz; refine Exists.intro _ (Exists.intro _ ⟨spec_l25Find.call hy ?_ ?_, rfl, rfl, ?_⟩)))
        | ((with_reducible refine fin_mk ?_); (repeat (first | replace H := grd_k H | replace H := out_step H (by assumption))); have H := Option.some.inj H; subst H))
def G21 : Env := G20.add 34 [] spec_CabinAt.S
theorem G21_ok : EnvOk Try.prog G21 := G20_ok.add ent_34 fun ar h r h1 ⟨a0, a1, y, hy, e1, e2, e3, e4⟩ => by
  subst e3 e4; exact (spec_CabinAt.spec a0 a1 y hy).le e1 e2
attribute [local irreducible] spec_CabinAt

noncomputable def impl_Ropeway_cabinAt_1_i1 (a0 : Slot) (a100 : Int) : Option (Bool) :=
  (cond (decide ((0 : Int) < a0.1)) ((some (decide (a0.1 = a100)))) ((some false)))
def impl_Ropeway_cabinAt_1_i1.res (_ : Slot) (_ : Int) (y : Bool) : AV := (.bl y)
def impl_Ropeway_cabinAt_1_i1.out (_ : Slot) (_ : Int) (_ : Bool) : List (Option LB) := []
def impl_Ropeway_cabinAt_1_i1.S (ar : List AV) (h : List (Option LB)) (r : AV) (h1 : List (Option LB)) : Prop := ∃ a0 a100 y, impl_Ropeway_cabinAt_1_i1 a0 a100 = some y ∧ leL ar [(.agg [(.v (.int .i64 a0.1)), (.bl a0.2.1), (.v (.int .i64 a0.2.2.1))]), (.bptr [(.v (.int .i64 a100))] 0)] ∧ leH h [] ∧ r = impl_Ropeway_cabinAt_1_i1.res a0 a100 y ∧ h1 = impl_Ropeway_cabinAt_1_i1.out a0 a100 y
theorem impl_Ropeway_cabinAt_1_i1.call {ar : List AV} {h : List (Option LB)} {a0 : Slot} {a100 : Int} {y : Bool} (H : impl_Ropeway_cabinAt_1_i1 a0 a100 = some y) (h1 : leL ar [(.agg [(.v (.int .i64 a0.1)), (.bl a0.2.1), (.v (.int .i64 a0.2.2.1))]), (.bptr [(.v (.int .i64 a100))] 0)]) (h2 : leH h []) : impl_Ropeway_cabinAt_1_i1.S ar h (impl_Ropeway_cabinAt_1_i1.res a0 a100 y) (impl_Ropeway_cabinAt_1_i1.out a0 a100 y) := ⟨a0, a100, y, H, h1, h2, rfl, rfl⟩
set_option maxHeartbeats 4000000 in
set_option maxRecDepth 100000 in
theorem impl_Ropeway_cabinAt_1_i1.spec (a0 : Slot) (a100 : Int) (y : Bool) (H : impl_Ropeway_cabinAt_1_i1 a0 a100 = some y) : Spec Try.prog 94 [(.agg [(.v (.int .i64 a0.1)), (.bl a0.2.1), (.v (.int .i64 a0.2.2.1))]), (.bptr [(.v (.int .i64 a100))] 0)] [] (impl_Ropeway_cabinAt_1_i1.res a0 a100 y) (impl_Ropeway_cabinAt_1_i1.out a0 a100 y) := by
  refine spec_intro G21_ok (ct := []) Try.func94 rfl (by kernel_rfl) (by kernel_rfl) rfl ?_
  repeat' first
    | ((with_reducible refine eqg ?_); exact rfl)
    | ((with_reducible refine KOb.mk ?_); kernel_rfl)
    | ((with_reducible intro h); (repeat (first | replace H := grd_k H | replace H := out_step H (by assumption))); first | replace H := cond_t h H | replace H := cond_f h H)
    | ((with_reducible refine Ob.mk ?_); first | rfl | (repeat (first | exact grd_p H | replace H := grd_k H | replace H := out_step H (by assumption))))
    | (with_reducible exact True.intro)
    | constructor
    | ((conv => whnf); first
        | ((with_reducible refine Ob.mk ?_); first | rfl | (repeat (first | exact grd_p H | replace H := grd_k H | replace H := out_step H (by assumption))))
        | ((with_reducible refine fin_mk ?_); (repeat (first | replace H := grd_k H | replace H := out_step H (by assumption))); have H := Option.some.inj H; subst H))
def G22 : Env := G21.add 94 [] impl_Ropeway_cabinAt_1_i1.S
theorem G22_ok : EnvOk Try.prog G22 := G21_ok.add ent_94 fun ar h r h1 ⟨a0, a100, y, hy, e1, e2, e3, e4⟩ => by
  subst e3 e4; exact (impl_Ropeway_cabinAt_1_i1.spec a0 a100 y hy).le e1 e2
attribute [local irreducible] impl_Ropeway_cabinAt_1_i1

noncomputable def slices_IndexFunc___impl_Slot_impl_Slot__i2_loop1 (a0 : (List Slot)) (a100 : Int) (v4 : Int) : Option (Lp (Int) ((Int) ⊕ (Unit))) :=
  (cond (decide (v4 < (a0.length : Int))) (grd (0 ≤ v4 ∧ v4 < (a0.length : Int)) ((impl_Ropeway_cabinAt_1_i1 ((a0.getD v4.toNat d_Slot).1, (a0.getD v4.toNat d_Slot).2.1, (a0.getD v4.toNat d_Slot).2.2.1, ()) a100).bind fun y5 => (cond y5 ((some (.out (Sum.inl v4)))) (some (.go (w64 (v4 + (1 : Int)))))))) ((some (.out (Sum.inr ())))))
noncomputable def slices_IndexFunc___impl_Slot_impl_Slot__i2 (a0 : (List Slot)) (a100 : Int) : Option (Int) :=
  ((iter (fun s => slices_IndexFunc___impl_Slot_impl_Slot__i2_loop1 a0 a100 s) (0 : Int)).bind (Sum.elim (fun r7 => (some r7)) (fun r8 => (some ((-1) : Int)))))
def slices_IndexFunc___impl_Slot_impl_Slot__i2.res (_ : (List Slot)) (_ : Int) (y : Int) : AV := (.v (.int .i64 y))
def slices_IndexFunc___impl_Slot_impl_Slot__i2.out (_ : (List Slot)) (_ : Int) (_ : Int) : List (Option LB) := []
def slices_IndexFunc___impl_Slot_impl_Slot__i2.S (ar : List AV) (h : List (Option LB)) (r : AV) (h1 : List (Option LB)) : Prop := ∃ a0 a100 y, slices_IndexFunc___impl_Slot_impl_Slot__i2 a0 a100 = some y ∧ leL ar [(.tree ty_Slot a0), (.fn 94 [(.bptr [(.v (.int .i64 a100))] 0)])] ∧ leH h [] ∧ r = slices_IndexFunc___impl_Slot_impl_Slot__i2.res a0 a100 y ∧ h1 = slices_IndexFunc___impl_Slot_impl_Slot__i2.out a0 a100 y
theorem slices_IndexFunc___impl_Slot_impl_Slot__i2.call {ar : List AV} {h : List (Option LB)} {a0 : (List Slot)} {a100 : Int} {y : Int} (H : slices_IndexFunc___impl_Slot_impl_Slot__i2 a0 a100 = some y) (h1 : leL ar [(.tree ty_Slot a0), (.fn 94 [(.bptr [(.v (.int .i64 a100))] 0)])]) (h2 : leH h []) : slices_IndexFunc___impl_Slot_impl_Slot__i2.S ar h (slices_IndexFunc___impl_Slot_impl_Slot__i2.res a0 a100 y) (slices_IndexFunc___impl_Slot_impl_Slot__i2.out a0 a100 y) := ⟨a0, a100, y, H, h1, h2, rfl, rfl⟩
set_option maxHeartbeats 4000000 in
set_option maxRecDepth 100000 in
theorem slices_IndexFunc___impl_Slot_impl_Slot__i2.spec (a0 : (List Slot)) (a100 : Int) (y : Int) (H : slices_IndexFunc___impl_Slot_impl_Slot__i2 a0 a100 = some y) : Spec Try.prog 87 [(.tree ty_Slot a0), (.fn 94 [(.bptr [(.v (.int .i64 a100))] 0)])] [] (slices_IndexFunc___impl_Slot_impl_Slot__i2.res a0 a100 y) (slices_IndexFunc___impl_Slot_impl_Slot__i2.out a0 a100 y) := by
  refine spec_intro G22_ok (ct := []) Try.func87 rfl (by kernel_rfl) (by kernel_rfl) rfl ?_
  repeat' first
    | ((with_reducible refine eqg ?_); exact rfl)
    | ((with_reducible refine KOb.mk ?_); kernel_rfl)
    | ((with_reducible intro h); (repeat (first | replace H := grd_k H | replace H := out_step H (by assumption))); first | replace H := cond_t h H | replace H := cond_f h H)
    | ((with_reducible refine Ob.mk ?_); first | rfl | (repeat (first | exact grd_p H | replace H := grd_k H | replace H := out_step H (by assumption))))
    | (with_reducible exact True.intro)
    | constructor
    | ((conv => whnf); first
        | ((with_reducible refine Ob.mk ?_); first | rfl | (repeat (first | exact grd_p H | replace H := grd_k H | replace H := out_step H (by assumption))))
        | ((with_reducible refine CallW.mk ?_); (repeat (first | replace H := grd_k H | replace H := out_step H (by assumption))); obtain ⟨y, hy, H⟩ := bind_some H; first | ((with_reducible have hz : impl_Ropeway_cabinAt_1_i1 _ _ = some y := hy); clear hz; refine Exists.intro _ (Exists.intro _ ⟨impl_Ropeway_cabinAt_1_i1.call hy ?_ ?_, rfl, rfl, ?_⟩)))
        | ((repeat (first | replace H := grd_k H | replace H := out_step H (by assumption))); refine loop_iter G22_ok (ct := []) (F := (fun s1 : Int => ⟨sl [(0, (.tree ty_Slot a0)), (1, (.fn 94 [(.bptr [(.v (.int .i64 a100))] 0)])), (7, (.v (.int .i64 (a0.length : Int)))), (8, (.v (.int .i64 s1)))], []⟩)) (step := (fun s : Int => slices_IndexFunc___impl_Slot_impl_Slot__i2_loop1 _ _ s)) _ H (by kernel_rfl) (sub_auto ?_) ?_; rotate_left; (intro s1 r v hr H); rotate_right)
        | ((repeat (first | replace H := grd_k H | replace H := out_step H (by assumption))); refine again_step H (by assumption) (sub_auto ?_))
        | ((with_reducible refine fin_mk ?_); (repeat (first | replace H := grd_k H | replace H := out_step H (by assumption))); have H := Option.some.inj H; subst H))
def G23 : Env := G22.addOr 87 [] slices_IndexFunc___impl_Slot_impl_Slot__i2.S
theorem G23_ok : EnvOk Try.prog G23 := G22_ok.addOr ent_87 fun ar h r h1 ⟨a0, a100, y, hy, e1, e2, e3, e4⟩ => by
  subst e3 e4; exact (slices_IndexFunc___impl_Slot_impl_Slot__i2.spec a0 a100 y hy).le e1 e2
attribute [local irreducible] slices_IndexFunc___impl_Slot_impl_Slot__i2

noncomputable def impl_Ropeway_cabinAt (a0 : Ropeway) (a1 : Int) : Option (Int) :=
  ((slices_IndexFunc___impl_Slot_impl_Slot__i2 a0.2.1 a1).bind fun y1 => (some y1))
def impl_Ropeway_cabinAt.res (_ : Ropeway) (_ : Int) (y : Int) : AV := (.v (.int .i64 y))
def impl_Ropeway_cabinAt.out (_ : Ropeway) (_ : Int) (_ : Int) : List (Option LB) := []
def impl_Ropeway_cabinAt.S (ar : List AV) (h : List (Option LB)) (r : AV) (h1 : List (Option LB)) : Prop := ∃ a0 a1 y, impl_Ropeway_cabinAt a0 a1 = some y ∧ leL ar [(.agg [(.v (.int .i64 a0.1)), (.tree ty_Slot a0.2.1), (.v (.int .i64 a0.2.2.1)), (.v (.int .i64 a0.2.2.2.1)), (.v (.int .i64 a0.2.2.2.2.1))]), (.v (.int .i64 a1))] ∧ leH h [] ∧ r = impl_Ropeway_cabinAt.res a0 a1 y ∧ h1 = impl_Ropeway_cabinAt.out a0 a1 y
theorem impl_Ropeway_cabinAt.call {ar : List AV} {h : List (Option LB)} {a0 : Ropeway} {a1 : Int} {y : Int} (H : impl_Ropeway_cabinAt a0 a1 = some y) (h1 : leL ar [(.agg [(.v (.int .i64 a0.1)), (.tree ty_Slot a0.2.1), (.v (.int .i64 a0.2.2.1)), (.v (.int .i64 a0.2.2.2.1)), (.v (.int .i64 a0.2.2.2.2.1))]), (.v (.int .i64 a1))]) (h2 : leH h []) : impl_Ropeway_cabinAt.S ar h (impl_Ropeway_cabinAt.res a0 a1 y) (impl_Ropeway_cabinAt.out a0 a1 y) := ⟨a0, a1, y, H, h1, h2, rfl, rfl⟩
set_option maxHeartbeats 4000000 in
set_option maxRecDepth 100000 in
theorem impl_Ropeway_cabinAt.spec (a0 : Ropeway) (a1 : Int) (y : Int) (H : impl_Ropeway_cabinAt a0 a1 = some y) : Spec Try.prog 80 [(.agg [(.v (.int .i64 a0.1)), (.tree ty_Slot a0.2.1), (.v (.int .i64 a0.2.2.1)), (.v (.int .i64 a0.2.2.2.1)), (.v (.int .i64 a0.2.2.2.2.1))]), (.v (.int .i64 a1))] [] (impl_Ropeway_cabinAt.res a0 a1 y) (impl_Ropeway_cabinAt.out a0 a1 y) := by
  refine spec_intro G23_ok (ct := []) Try.func80 rfl (by kernel_rfl) (by kernel_rfl) rfl ?_
  repeat' first
    | ((with_reducible refine eqg ?_); exact rfl)
    | ((with_reducible refine KOb.mk ?_); kernel_rfl)
    | ((with_reducible intro h); (repeat (first | replace H := grd_k H | replace H := out_step H (by assumption))); first | replace H := cond_t h H | replace H := cond_f h H)
    | ((with_reducible refine Ob.mk ?_); first | rfl | (repeat (first | exact grd_p H | replace H := grd_k H | replace H := out_step H (by assumption))))
    | (with_reducible exact True.intro)
    | constructor
    | ((conv => whnf); first
        | ((with_reducible refine Ob.mk ?_); first | rfl | (repeat (first | exact grd_p H | replace H := grd_k H | replace H := out_step H (by assumption))))
        | ((with_reducible refine CallW.mk ?_); (repeat (first | replace H := grd_k H | replace H := out_step H (by assumption))); obtain ⟨y, hy, H⟩ := bind_some H; first | ((with_reducible have hz : slices_IndexFunc___impl_Slot_impl_Slot__i2 _ _ = some y := hy); clear hz; refine Exists.intro _ (Exists.intro _ ⟨Or.inl (slices_IndexFunc___impl_Slot_impl_Slot__i2.call hy ?_ ?_), rfl, rfl, ?_⟩)))
        | ((with_reducible refine fin_mk ?_); (repeat (first | replace H := grd_k H | replace H := out_step H (by assumption))); have H := Option.some.inj H; subst H))
def G24 : Env := G23.add 80 [] impl_Ropeway_cabinAt.S
theorem G24_ok : EnvOk Try.prog G24 := G23_ok.add ent_80 fun ar h r h1 ⟨a0, a1, y, hy, e1, e2, e3, e4⟩ => by
  subst e3 e4; exact (impl_Ropeway_cabinAt.spec a0 a1 y hy).le e1 e2
attribute [local irreducible] impl_Ropeway_cabinAt

noncomputable def impl_CabinAt (a0 : Ropeway) (a1 : Int) : Option (Int × Bool) :=
  ((impl_IsRopeway (a0.1, a0.2.1, a0.2.2.1, a0.2.2.2.1, a0.2.2.2.2.1, ())).bind fun y1 => (cond (!y1) ((some ((0 : Int), false))) ((impl_Ropeway_cabinAt (a0.1, a0.2.1, a0.2.2.1, a0.2.2.2.1, a0.2.2.2.2.1, ()) a1).bind fun y2 => (some ((if false = true then (if (0 : Int) < y2 then (0 : Int) else y2) else (if (0 : Int) > y2 then (0 : Int) else y2)), (decide ((0 : Int) ≤ y2)))))))
def impl_CabinAt.res (_ : Ropeway) (_ : Int) (y : Int × Bool) : AV := (.tup [(.v (.int .i64 y.1)), (.bl y.2)])
def impl_CabinAt.out (_ : Ropeway) (_ : Int) (_ : Int × Bool) : List (Option LB) := []
def impl_CabinAt.S (ar : List AV) (h : List (Option LB)) (r : AV) (h1 : List (Option LB)) : Prop := ∃ a0 a1 y, impl_CabinAt a0 a1 = some y ∧ leL ar [(.agg [(.v (.int .i64 a0.1)), (.tree ty_Slot a0.2.1), (.v (.int .i64 a0.2.2.1)), (.v (.int .i64 a0.2.2.2.1)), (.v (.int .i64 a0.2.2.2.2.1))]), (.v (.int .i64 a1))] ∧ leH h [] ∧ r = impl_CabinAt.res a0 a1 y ∧ h1 = impl_CabinAt.out a0 a1 y
theorem impl_CabinAt.call {ar : List AV} {h : List (Option LB)} {a0 : Ropeway} {a1 : Int} {y : Int × Bool} (H : impl_CabinAt a0 a1 = some y) (h1 : leL ar [(.agg [(.v (.int .i64 a0.1)), (.tree ty_Slot a0.2.1), (.v (.int .i64 a0.2.2.1)), (.v (.int .i64 a0.2.2.2.1)), (.v (.int .i64 a0.2.2.2.2.1))]), (.v (.int .i64 a1))]) (h2 : leH h []) : impl_CabinAt.S ar h (impl_CabinAt.res a0 a1 y) (impl_CabinAt.out a0 a1 y) := ⟨a0, a1, y, H, h1, h2, rfl, rfl⟩
set_option maxHeartbeats 4000000 in
set_option maxRecDepth 100000 in
theorem impl_CabinAt.spec (a0 : Ropeway) (a1 : Int) (y : Int × Bool) (H : impl_CabinAt a0 a1 = some y) : Spec Try.prog 35 [(.agg [(.v (.int .i64 a0.1)), (.tree ty_Slot a0.2.1), (.v (.int .i64 a0.2.2.1)), (.v (.int .i64 a0.2.2.2.1)), (.v (.int .i64 a0.2.2.2.2.1))]), (.v (.int .i64 a1))] [] (impl_CabinAt.res a0 a1 y) (impl_CabinAt.out a0 a1 y) := by
  refine spec_intro G24_ok (ct := []) Try.func35 rfl (by kernel_rfl) (by kernel_rfl) rfl ?_
  repeat' first
    | ((with_reducible refine eqg ?_); exact rfl)
    | ((with_reducible refine KOb.mk ?_); kernel_rfl)
    | ((with_reducible intro h); (repeat (first | replace H := grd_k H | replace H := out_step H (by assumption))); first | replace H := cond_t h H | replace H := cond_f h H)
    | ((with_reducible refine Ob.mk ?_); first | rfl | (repeat (first | exact grd_p H | replace H := grd_k H | replace H := out_step H (by assumption))))
    | (with_reducible exact True.intro)
    | constructor
    | ((conv => whnf); first
        | ((with_reducible refine Ob.mk ?_); first | rfl | (repeat (first | exact grd_p H | replace H := grd_k H | replace H := out_step H (by assumption))))
        | ((with_reducible refine CallW.mk ?_); (repeat (first | replace H := grd_k H | replace H := out_step H (by assumption))); obtain ⟨y, hy, H⟩ := bind_some H; first | ((with_reducible have hz : impl_IsRopeway _ = some y := hy); clear hz; refine Exists.intro _ (Exists.intro _ ⟨impl_IsRopeway.call hy ?_ ?_, rfl, rfl, ?_⟩)) | ((with_reducible have hz : impl_Ropeway_cabinAt _ _ = some y := hy); clear hz; refine Exists.intro _ (Exists.intro _ ⟨impl_Ropeway_cabinAt.call hy ?_ ?_, rfl, rfl, ?_⟩)))
        | ((with_reducible refine fin_mk ?_); (repeat (first | replace H := grd_k H | replace H := out_step H (by assumption))); have H := Option.some.inj H; subst H))
def G25 : Env := G24.add 35 [] impl_CabinAt.S
theorem G25_ok : EnvOk Try.prog G25 := G24_ok.add ent_35 fun ar h r h1 ⟨a0, a1, y, hy, e1, e2, e3, e4⟩ => by
  subst e3 e4; exact (impl_CabinAt.spec a0 a1 y hy).le e1 e2
attribute [local irreducible] impl_CabinAt

noncomputable def laws_FnExactCabinAt (a0 : Ropeway) (a1 : Int) : Option (Bool) :=
  ((laws_szRopeway (a0.1, a0.2.1, a0.2.2.1, a0.2.2.2.1, a0.2.2.2.2.1, ()) (1048576 : Int)).bind fun y1 => (cond (decide (y1 < (0 : Int))) ((some true)) ((laws_toRopeway (a0.1, a0.2.1, a0.2.2.1, a0.2.2.2.1, a0.2.2.2.2.1, ())).bind fun y2 => ((spec_CabinAt (y2.1, y2.2.1, y2.2.2.1, y2.2.2.2.1, y2.2.2.2.2.1, ()) a1).bind fun y3 => ((laws_toRopeway (a0.1, a0.2.1, a0.2.2.1, a0.2.2.2.1, a0.2.2.2.2.1, ())).bind fun y4 => ((impl_CabinAt (y4.1, y4.2.1, y4.2.2.1, y4.2.2.2.1, y4.2.2.2.2.1, ()) a1).bind fun y5 => (cond (!decide (y5.1 = y3.1)) ((some false)) (cond (!(y5.2 == y3.2)) ((some false)) ((laws_toRopeway (a0.1, a0.2.1, a0.2.2.1, a0.2.2.2.1, a0.2.2.2.2.1, ())).bind fun y6 => ((laws_eqRopeway (y4.1, y4.2.1, y4.2.2.1, y4.2.2.2.1, y4.2.2.2.2.1, ()) (y6.1, y6.2.1, y6.2.2.1, y6.2.2.2.1, y6.2.2.2.2.1, ())).bind fun y7 => (cond (!y7) ((some false)) ((some true)))))))))))))
def laws_FnExactCabinAt.res (_ : Ropeway) (_ : Int) (y : Bool) : AV := (.bl y)
def laws_FnExactCabinAt.out (_ : Ropeway) (_ : Int) (_ : Bool) : List (Option LB) := []
def laws_FnExactCabinAt.S (ar : List AV) (h : List (Option LB)) (r : AV) (h1 : List (Option LB)) : Prop := ∃ a0 a1 y, laws_FnExactCabinAt a0 a1 = some y ∧ leL ar [(.agg [(.v (.int .i64 a0.1)), (.tree ty_Slot a0.2.1), (.v (.int .i64 a0.2.2.1)), (.v (.int .i64 a0.2.2.2.1)), (.v (.int .i64 a0.2.2.2.2.1))]), (.v (.int .i64 a1))] ∧ leH h [] ∧ r = laws_FnExactCabinAt.res a0 a1 y ∧ h1 = laws_FnExactCabinAt.out a0 a1 y
theorem laws_FnExactCabinAt.call {ar : List AV} {h : List (Option LB)} {a0 : Ropeway} {a1 : Int} {y : Bool} (H : laws_FnExactCabinAt a0 a1 = some y) (h1 : leL ar [(.agg [(.v (.int .i64 a0.1)), (.tree ty_Slot a0.2.1), (.v (.int .i64 a0.2.2.1)), (.v (.int .i64 a0.2.2.2.1)), (.v (.int .i64 a0.2.2.2.2.1))]), (.v (.int .i64 a1))]) (h2 : leH h []) : laws_FnExactCabinAt.S ar h (laws_FnExactCabinAt.res a0 a1 y) (laws_FnExactCabinAt.out a0 a1 y) := ⟨a0, a1, y, H, h1, h2, rfl, rfl⟩
set_option maxHeartbeats 4000000 in
set_option maxRecDepth 100000 in
theorem laws_FnExactCabinAt.spec (a0 : Ropeway) (a1 : Int) (y : Bool) (H : laws_FnExactCabinAt a0 a1 = some y) : Spec Try.prog 6 [(.agg [(.v (.int .i64 a0.1)), (.tree ty_Slot a0.2.1), (.v (.int .i64 a0.2.2.1)), (.v (.int .i64 a0.2.2.2.1)), (.v (.int .i64 a0.2.2.2.2.1))]), (.v (.int .i64 a1))] [] (laws_FnExactCabinAt.res a0 a1 y) (laws_FnExactCabinAt.out a0 a1 y) := by
  refine spec_intro G25_ok (ct := []) Try.func6 rfl (by kernel_rfl) (by kernel_rfl) rfl ?_
  repeat' first
    | ((with_reducible refine eqg ?_); exact rfl)
    | ((with_reducible refine KOb.mk ?_); kernel_rfl)
    | ((with_reducible intro h); (repeat (first | replace H := grd_k H | replace H := out_step H (by assumption))); first | replace H := cond_t h H | replace H := cond_f h H)
    | ((with_reducible refine Ob.mk ?_); first | rfl | (repeat (first | exact grd_p H | replace H := grd_k H | replace H := out_step H (by assumption))))
    | (with_reducible exact True.intro)
    | constructor
    | ((conv => whnf); first
        | ((with_reducible refine Ob.mk ?_); first | rfl | (repeat (first | exact grd_p H | replace H := grd_k H | replace H := out_step H (by assumption))))
        | ((with_reducible refine CallW.mk ?_); (repeat (first | replace H := grd_k H | replace H := out_step H (by assumption))); obtain ⟨y, hy, H⟩ := bind_some H; first | ((with_reducible have hz : laws_szRopeway _ _ = some y := hy); clear hz; refine Exists.intro _ (Exists.intro _ ⟨laws_szRopeway.call hy ?_ ?_, rfl, rfl, ?_⟩)) | ((with_reducible have hz : laws_toRopeway _ = some y := hy); clear hz; refine Exists.intro _ (Exists.intro _ ⟨laws_toRopeway.call hy ?_ ?_, rfl, rfl, ?_⟩)) | ((with_reducible have hz : spec_CabinAt _ _ = some y := hy); clear hz; refine Exists.intro _ (Exists.intro _ ⟨spec_CabinAt.call hy ?_ ?_, rfl, rfl, ?_⟩)) | ((with_reducible have hz : impl_CabinAt _ _ = some y := hy); clear hz; refine Exists.intro _ (Exists.intro _ ⟨impl_CabinAt.call hy ?_ ?_, rfl, rfl, ?_⟩)) | ((with_reducible have hz : laws_eqRopeway _ _ = some y := hy); clear hz; refine Exists.intro _ (Exists.intro _ ⟨laws_eqRopeway.call hy ?_ ?_, rfl, rfl, ?_⟩)))
        | ((with_reducible refine fin_mk ?_); (repeat (first | replace H := grd_k H | replace H := out_step H (by assumption))); have H := Option.some.inj H; subst H))
def G26 : Env := G25.add 6 [] laws_FnExactCabinAt.S
theorem G26_ok : EnvOk Try.prog G26 := G25_ok.add ent_6 fun ar h r h1 ⟨a0, a1, y, hy, e1, e2, e3, e4⟩ => by
  subst e3 e4; exact (laws_FnExactCabinAt.spec a0 a1 y hy).le e1 e2
attribute [local irreducible] laws_FnExactCabinAt

noncomputable def spec_l25Sum_loop1 (a0 : Ropeway) (v4 : Int) (v5 : Int) (v6 : Int) : Option (Lp (Int × Int × Int) ((Int × Int))) :=
  (cond (decide (v6 < (a0.2.1.length : Int))) (grd (0 ≤ v6 ∧ v6 < (a0.2.1.length : Int)) (cond (!decide (v6 = (0 : Int))) (grd ((2 : Int) ≠ 0) (cond (!decide (v6 = (w64 (Int.tdiv (a0.2.1.length : Int) (2 : Int))))) (grd (0 ≤ v6 ∧ v6 < (a0.2.1.length : Int)) (some (.go ((w64 (v4 + ((a0.2.1.getD v6.toNat d_Slot).2.2.1))), (w64 (v5 + ((a0.2.1.getD v6.toNat d_Slot).2.2.1))), (w64 (v6 + (1 : Int))))))) (some (.go ((w64 (v4 + ((a0.2.1.getD v6.toNat d_Slot).2.2.1))), v5, (w64 (v6 + (1 : Int)))))))) (some (.go ((w64 (v4 + ((a0.2.1.getD v6.toNat d_Slot).2.2.1))), v5, (w64 (v6 + (1 : Int)))))))) ((some (.out (v4, v5)))))
noncomputable def spec_l25Sum (a0 : Ropeway) : Option (Int × Int) :=
  ((iter (fun s => spec_l25Sum_loop1 a0 s.1 s.2.1 s.2.2) ((0 : Int), (0 : Int), (0 : Int))).bind (fun r7 => (some (r7.1, r7.2))))
def spec_l25Sum.res (_ : Ropeway) (y : Int × Int) : AV := (.tup [(.v (.int .i64 y.1)), (.v (.int .i64 y.2))])
def spec_l25Sum.out (_ : Ropeway) (_ : Int × Int) : List (Option LB) := []
def spec_l25Sum.S (ar : List AV) (h : List (Option LB)) (r : AV) (h1 : List (Option LB)) : Prop := ∃ a0 y, spec_l25Sum a0 = some y ∧ leL ar [(.agg [(.v (.int .i64 a0.1)), (.tree ty_Slot a0.2.1), (.v (.int .i64 a0.2.2.1)), (.v (.int .i64 a0.2.2.2.1)), (.v (.int .i64 a0.2.2.2.2.1))])] ∧ leH h [] ∧ r = spec_l25Sum.res a0 y ∧ h1 = spec_l25Sum.out a0 y
theorem spec_l25Sum.call {ar : List AV} {h : List (Option LB)} {a0 : Ropeway} {y : Int × Int} (H : spec_l25Sum a0 = some y) (h1 : leL ar [(.agg [(.v (.int .i64 a0.1)), (.tree ty_Slot a0.2.1), (.v (.int .i64 a0.2.2.1)), (.v (.int .i64 a0.2.2.2.1)), (.v (.int .i64 a0.2.2.2.2.1))])]) (h2 : leH h []) : spec_l25Sum.S ar h (spec_l25Sum.res a0 y) (spec_l25Sum.out a0 y) := ⟨a0, y, H, h1, h2, rfl, rfl⟩
set_option maxHeartbeats 4000000 in
set_option maxRecDepth 100000 in
theorem spec_l25Sum.spec (a0 : Ropeway) (y : Int × Int) (H : spec_l25Sum a0 = some y) : Spec Try.prog 81 [(.agg [(.v (.int .i64 a0.1)), (.tree ty_Slot a0.2.1), (.v (.int .i64 a0.2.2.1)), (.v (.int .i64 a0.2.2.2.1)), (.v (.int .i64 a0.2.2.2.2.1))])] [] (spec_l25Sum.res a0 y) (spec_l25Sum.out a0 y) := by
  refine spec_intro G26_ok (ct := []) Try.func81 rfl (by kernel_rfl) (by kernel_rfl) rfl ?_
  repeat' first
    | ((with_reducible refine eqg ?_); exact rfl)
    | ((with_reducible refine KOb.mk ?_); kernel_rfl)
    | ((with_reducible intro h); (repeat (first | replace H := grd_k H | replace H := out_step H (by assumption))); first | replace H := cond_t h H | replace H := cond_f h H)
    | ((with_reducible refine Ob.mk ?_); first | rfl | (repeat (first | exact grd_p H | replace H := grd_k H | replace H := out_step H (by assumption))))
    | (with_reducible exact True.intro)
    | constructor
    | ((conv => whnf); first
        | ((with_reducible refine Ob.mk ?_); first | rfl | (repeat (first | exact grd_p H | replace H := grd_k H | replace H := out_step H (by assumption))))
        | ((repeat (first | replace H := grd_k H | replace H := out_step H (by assumption))); refine loop_iter G26_ok (ct := []) (F := (fun s1 : Int × Int × Int => ⟨sl [(1, (.loc 0 0 0)), (4, (.v (.int .i64 s1.1))), (5, (.v (.int .i64 s1.2.1))), (6, (.v (.int .i64 s1.2.2)))], [some (.box 29 [(.v (.int .i64 a0.1)), (.tree ty_Slot a0.2.1), (.v (.int .i64 a0.2.2.1)), (.v (.int .i64 a0.2.2.2.1)), (.v (.int .i64 a0.2.2.2.2.1))])]⟩)) (step := (fun s : Int × Int × Int => spec_l25Sum_loop1 _ s.1 s.2.1 s.2.2)) _ H (by kernel_rfl) (sub_auto ?_) ?_; rotate_left; (intro s1 r v hr H); rotate_right)
        | ((repeat (first | replace H := grd_k H | replace H := out_step H (by assumption))); refine again_step H (by assumption) (sub_auto ?_))
        | ((with_reducible refine fin_mk ?_); (repeat (first | replace H := grd_k H | replace H := out_step H (by assumption))); have H := Option.some.inj H; subst H))
def G27 : Env := G26.add 81 [] spec_l25Sum.S
theorem G27_ok : EnvOk Try.prog G27 := G26_ok.add ent_81 fun ar h r h1 ⟨a0, y, hy, e1, e2, e3, e4⟩ => by
  subst e3 e4; exact (spec_l25Sum.spec a0 y hy).le e1 e2
attribute [local irreducible] spec_l25Sum

noncomputable def spec_IsCleared (a0 : Ropeway) : Option (Bool × Bool) :=
  ((spec_l25Good (a0.1, a0.2.1, a0.2.2.1, a0.2.2.2.1, a0.2.2.2.2.1, ())).bind fun y1 => (cond (!y1) ((some (false, false))) ((spec_l25Sum (a0.1, a0.2.1, a0.2.2.1, a0.2.2.2.1, a0.2.2.2.2.1, ())).bind fun y2 => (cond (decide (a0.2.2.2.1 = (0 : Int))) ((some ((decide (y2.1 = (0 : Int))), true))) ((some (false, true)))))))
def spec_IsCleared.res (_ : Ropeway) (y : Bool × Bool) : AV := (.tup [(.bl y.1), (.bl y.2)])
def spec_IsCleared.out (_ : Ropeway) (_ : Bool × Bool) : List (Option LB) := []
def spec_IsCleared.S (ar : List AV) (h : List (Option LB)) (r : AV) (h1 : List (Option LB)) : Prop := ∃ a0 y, spec_IsCleared a0 = some y ∧ leL ar [(.agg [(.v (.int .i64 a0.1)), (.tree ty_Slot a0.2.1), (.v (.int .i64 a0.2.2.1)), (.v (.int .i64 a0.2.2.2.1)), (.v (.int .i64 a0.2.2.2.2.1))])] ∧ leH h [] ∧ r = spec_IsCleared.res a0 y ∧ h1 = spec_IsCleared.out a0 y
theorem spec_IsCleared.call {ar : List AV} {h : List (Option LB)} {a0 : Ropeway} {y : Bool × Bool} (H : spec_IsCleared a0 = some y) (h1 : leL ar [(.agg [(.v (.int .i64 a0.1)), (.tree ty_Slot a0.2.1), (.v (.int .i64 a0.2.2.1)), (.v (.int .i64 a0.2.2.2.1)), (.v (.int .i64 a0.2.2.2.2.1))])]) (h2 : leH h []) : spec_IsCleared.S ar h (spec_IsCleared.res a0 y) (spec_IsCleared.out a0 y) := ⟨a0, y, H, h1, h2, rfl, rfl⟩
set_option maxHeartbeats 4000000 in
set_option maxRecDepth 100000 in
theorem spec_IsCleared.spec (a0 : Ropeway) (y : Bool × Bool) (H : spec_IsCleared a0 = some y) : Spec Try.prog 36 [(.agg [(.v (.int .i64 a0.1)), (.tree ty_Slot a0.2.1), (.v (.int .i64 a0.2.2.1)), (.v (.int .i64 a0.2.2.2.1)), (.v (.int .i64 a0.2.2.2.2.1))])] [] (spec_IsCleared.res a0 y) (spec_IsCleared.out a0 y) := by
  refine spec_intro G27_ok (ct := []) Try.func36 rfl (by kernel_rfl) (by kernel_rfl) rfl ?_
  repeat' first
    | ((with_reducible refine eqg ?_); exact rfl)
    | ((with_reducible refine KOb.mk ?_); kernel_rfl)
    | ((with_reducible intro h); (repeat (first | replace H := grd_k H | replace H := out_step H (by assumption))); first | replace H := cond_t h H | replace H := cond_f h H)
    | ((with_reducible refine Ob.mk ?_); first | rfl | (repeat (first | exact grd_p H | replace H := grd_k H | replace H := out_step H (by assumption))))
    | (with_reducible exact True.intro)
    | constructor
    | ((conv => whnf); first
        | ((with_reducible refine Ob.mk ?_); first | rfl | (repeat (first | exact grd_p H | replace H := grd_k H | replace H := out_step H (by assumption))))
        | ((with_reducible refine CallW.mk ?_); (repeat (first | replace H := grd_k H | replace H := out_step H (by assumption))); obtain ⟨y, hy, H⟩ := bind_some H; first | ((with_reducible have hz : spec_l25Good _ = some y := hy); clear hz; refine Exists.intro _ (Exists.intro _ ⟨spec_l25Good.call hy ?_ ?_, rfl, rfl, ?_⟩)) | ((with_reducible have hz : spec_l25Sum _ = some y := hy); clear hz; refine Exists.intro _ (Exists.intro _ ⟨spec_l25Sum.call hy ?_ ?_, rfl, rfl, ?_⟩)))
        | ((with_reducible refine fin_mk ?_); (repeat (first | replace H := grd_k H | replace H := out_step H (by assumption))); have H := Option.some.inj H; subst H))
def G28 : Env := G27.add 36 [] spec_IsCleared.S
theorem G28_ok : EnvOk Try.prog G28 := G27_ok.add ent_36 fun ar h r h1 ⟨a0, y, hy, e1, e2, e3, e4⟩ => by
  subst e3 e4; exact (spec_IsCleared.spec a0 y hy).le e1 e2
attribute [local irreducible] spec_IsCleared

noncomputable def impl_Ropeway_peopleOn_loop1 (a0 : Ropeway) (v6 : Int) (v7 : Int) (v8 : Int) : Option (Lp (Int × Int × Int) ((Int × Int))) :=
  (cond (decide (v8 < (a0.2.1.length : Int))) (grd (0 ≤ v8 ∧ v8 < (a0.2.1.length : Int)) ((impl_Ropeway_isStation (a0.1, a0.2.1, a0.2.2.1, a0.2.2.2.1, a0.2.2.2.2.1, ()) v8).bind fun y9 => (cond (!y9) (some (.go ((w64 (v6 + ((a0.2.1.getD v8.toNat d_Slot).2.2.1))), (w64 (v7 + ((a0.2.1.getD v8.toNat d_Slot).2.2.1))), (w64 (v8 + (1 : Int)))))) (some (.go ((w64 (v6 + ((a0.2.1.getD v8.toNat d_Slot).2.2.1))), v7, (w64 (v8 + (1 : Int))))))))) ((some (.out (v6, v7)))))
noncomputable def impl_Ropeway_peopleOn (a0 : Ropeway) : Option (Int × Int) :=
  ((iter (fun s => impl_Ropeway_peopleOn_loop1 a0 s.1 s.2.1 s.2.2) ((0 : Int), (0 : Int), (0 : Int))).bind (fun r10 => (some (r10.1, r10.2))))
def impl_Ropeway_peopleOn.res (_ : Ropeway) (y : Int × Int) : AV := (.tup [(.v (.int .i64 y.1)), (.v (.int .i64 y.2))])
def impl_Ropeway_peopleOn.out (_ : Ropeway) (_ : Int × Int) : List (Option LB) := []
def impl_Ropeway_peopleOn.S (ar : List AV) (h : List (Option LB)) (r : AV) (h1 : List (Option LB)) : Prop := ∃ a0 y, impl_Ropeway_peopleOn a0 = some y ∧ leL ar [(.agg [(.v (.int .i64 a0.1)), (.tree ty_Slot a0.2.1), (.v (.int .i64 a0.2.2.1)), (.v (.int .i64 a0.2.2.2.1)), (.v (.int .i64 a0.2.2.2.2.1))])] ∧ leH h [] ∧ r = impl_Ropeway_peopleOn.res a0 y ∧ h1 = impl_Ropeway_peopleOn.out a0 y
theorem impl_Ropeway_peopleOn.call {ar : List AV} {h : List (Option LB)} {a0 : Ropeway} {y : Int × Int} (H : impl_Ropeway_peopleOn a0 = some y) (h1 : leL ar [(.agg [(.v (.int .i64 a0.1)), (.tree ty_Slot a0.2.1), (.v (.int .i64 a0.2.2.1)), (.v (.int .i64 a0.2.2.2.1)), (.v (.int .i64 a0.2.2.2.2.1))])]) (h2 : leH h []) : impl_Ropeway_peopleOn.S ar h (impl_Ropeway_peopleOn.res a0 y) (impl_Ropeway_peopleOn.out a0 y) := ⟨a0, y, H, h1, h2, rfl, rfl⟩
set_option maxHeartbeats 4000000 in
set_option maxRecDepth 100000 in
theorem impl_Ropeway_peopleOn.spec (a0 : Ropeway) (y : Int × Int) (H : impl_Ropeway_peopleOn a0 = some y) : Spec Try.prog 70 [(.agg [(.v (.int .i64 a0.1)), (.tree ty_Slot a0.2.1), (.v (.int .i64 a0.2.2.1)), (.v (.int .i64 a0.2.2.2.1)), (.v (.int .i64 a0.2.2.2.2.1))])] [] (impl_Ropeway_peopleOn.res a0 y) (impl_Ropeway_peopleOn.out a0 y) := by
  refine spec_intro G28_ok (ct := []) Try.func70 rfl (by kernel_rfl) (by kernel_rfl) rfl ?_
  repeat' first
    | ((with_reducible refine eqg ?_); exact rfl)
    | ((with_reducible refine KOb.mk ?_); kernel_rfl)
    | ((with_reducible intro h); (repeat (first | replace H := grd_k H | replace H := out_step H (by assumption))); first | replace H := cond_t h H | replace H := cond_f h H)
    | ((with_reducible refine Ob.mk ?_); first | rfl | (repeat (first | exact grd_p H | replace H := grd_k H | replace H := out_step H (by assumption))))
    | (with_reducible exact True.intro)
    | constructor
    | ((conv => whnf); first
        | ((with_reducible refine Ob.mk ?_); first | rfl | (repeat (first | exact grd_p H | replace H := grd_k H | replace H := out_step H (by assumption))))
        | ((with_reducible refine CallW.mk ?_); (repeat (first | replace H := grd_k H | replace H := out_step H (by assumption))); obtain ⟨y, hy, H⟩ := bind_some H; first | ((with_reducible have hz : impl_Ropeway_isStation _ _ = some y := hy); clear hz; refine Exists.intro _ (Exists.intro _ ⟨impl_Ropeway_isStation.call hy ?_ ?_, rfl, rfl, ?_⟩)))
        | ((repeat (first | replace H := grd_k H | replace H := out_step H (by assumption))); refine loop_iter G28_ok (ct := []) (F := (fun s1 : Int × Int × Int => ⟨sl [(1, (.loc 0 0 0)), (4, (.v (.int .i64 s1.1))), (5, (.v (.int .i64 s1.2.1))), (9, (.tree ty_Slot a0.2.1)), (10, (.v (.int .i64 (a0.2.1.length : Int)))), (11, (.v (.int .i64 s1.2.2)))], [some (.box 29 [(.v (.int .i64 a0.1)), (.tree ty_Slot a0.2.1), (.v (.int .i64 a0.2.2.1)), (.v (.int .i64 a0.2.2.2.1)), (.v (.int .i64 a0.2.2.2.2.1))])]⟩)) (step := (fun s : Int × Int × Int => impl_Ropeway_peopleOn_loop1 _ s.1 s.2.1 s.2.2)) _ H (by kernel_rfl) (sub_auto ?_) ?_; rotate_left; (intro s1 r v hr H); rotate_right)
        | ((repeat (first | replace H := grd_k H | replace H := out_step H (by assumption))); refine again_step H (by assumption) (sub_auto ?_))
        | ((with_reducible refine fin_mk ?_); (repeat (first | replace H := grd_k H | replace H := out_step H (by assumption))); have H := Option.some.inj H; subst H))
def G29 : Env := G28.add 70 [] impl_Ropeway_peopleOn.S
theorem G29_ok : EnvOk Try.prog G29 := G28_ok.add ent_70 fun ar h r h1 ⟨a0, y, hy, e1, e2, e3, e4⟩ => by
  subst e3 e4; exact (impl_Ropeway_peopleOn.spec a0 y hy).le e1 e2
attribute [local irreducible] impl_Ropeway_peopleOn

noncomputable def impl_IsCleared (a0 : Ropeway) : Option (Bool × Bool) :=
  ((impl_IsRopeway (a0.1, a0.2.1, a0.2.2.1, a0.2.2.2.1, a0.2.2.2.2.1, ())).bind fun y1 => (cond (!y1) ((some (false, false))) ((impl_Ropeway_peopleOn (a0.1, a0.2.1, a0.2.2.1, a0.2.2.2.1, a0.2.2.2.2.1, ())).bind fun y2 => (cond (decide (y2.1 = (0 : Int))) ((some ((decide (a0.2.2.2.1 = (0 : Int))), true))) ((some (false, true)))))))
def impl_IsCleared.res (_ : Ropeway) (y : Bool × Bool) : AV := (.tup [(.bl y.1), (.bl y.2)])
def impl_IsCleared.out (_ : Ropeway) (_ : Bool × Bool) : List (Option LB) := []
def impl_IsCleared.S (ar : List AV) (h : List (Option LB)) (r : AV) (h1 : List (Option LB)) : Prop := ∃ a0 y, impl_IsCleared a0 = some y ∧ leL ar [(.agg [(.v (.int .i64 a0.1)), (.tree ty_Slot a0.2.1), (.v (.int .i64 a0.2.2.1)), (.v (.int .i64 a0.2.2.2.1)), (.v (.int .i64 a0.2.2.2.2.1))])] ∧ leH h [] ∧ r = impl_IsCleared.res a0 y ∧ h1 = impl_IsCleared.out a0 y
theorem impl_IsCleared.call {ar : List AV} {h : List (Option LB)} {a0 : Ropeway} {y : Bool × Bool} (H : impl_IsCleared a0 = some y) (h1 : leL ar [(.agg [(.v (.int .i64 a0.1)), (.tree ty_Slot a0.2.1), (.v (.int .i64 a0.2.2.1)), (.v (.int .i64 a0.2.2.2.1)), (.v (.int .i64 a0.2.2.2.2.1))])]) (h2 : leH h []) : impl_IsCleared.S ar h (impl_IsCleared.res a0 y) (impl_IsCleared.out a0 y) := ⟨a0, y, H, h1, h2, rfl, rfl⟩
set_option maxHeartbeats 4000000 in
set_option maxRecDepth 100000 in
theorem impl_IsCleared.spec (a0 : Ropeway) (y : Bool × Bool) (H : impl_IsCleared a0 = some y) : Spec Try.prog 37 [(.agg [(.v (.int .i64 a0.1)), (.tree ty_Slot a0.2.1), (.v (.int .i64 a0.2.2.1)), (.v (.int .i64 a0.2.2.2.1)), (.v (.int .i64 a0.2.2.2.2.1))])] [] (impl_IsCleared.res a0 y) (impl_IsCleared.out a0 y) := by
  refine spec_intro G29_ok (ct := []) Try.func37 rfl (by kernel_rfl) (by kernel_rfl) rfl ?_
  repeat' first
    | ((with_reducible refine eqg ?_); exact rfl)
    | ((with_reducible refine KOb.mk ?_); kernel_rfl)
    | ((with_reducible intro h); (repeat (first | replace H := grd_k H | replace H := out_step H (by assumption))); first | replace H := cond_t h H | replace H := cond_f h H)
    | ((with_reducible refine Ob.mk ?_); first | rfl | (repeat (first | exact grd_p H | replace H := grd_k H | replace H := out_step H (by assumption))))
    | (with_reducible exact True.intro)
    | constructor
    | ((conv => whnf); first
        | ((with_reducible refine Ob.mk ?_); first | rfl | (repeat (first | exact grd_p H | replace H := grd_k H | replace H := out_step H (by assumption))))
        | ((with_reducible refine CallW.mk ?_); (repeat (first | replace H := grd_k H | replace H := out_step H (by assumption))); obtain ⟨y, hy, H⟩ := bind_some H; first | ((with_reducible have hz : impl_IsRopeway _ = some y := hy); clear hz; refine Exists.intro _ (Exists.intro _ ⟨impl_IsRopeway.call hy ?_ ?_, rfl, rfl, ?_⟩)) | ((with_reducible have hz : impl_Ropeway_peopleOn _ = some y := hy); clear hz; refine Exists.intro _ (Exists.intro _ ⟨impl_Ropeway_peopleOn.call hy ?_ ?_, rfl, rfl, ?_⟩)))
        | ((with_reducible refine fin_mk ?_); (repeat (first | replace H := grd_k H | replace H := out_step H (by assumption))); have H := Option.some.inj H; subst H))
def G30 : Env := G29.add 37 [] impl_IsCleared.S
theorem G30_ok : EnvOk Try.prog G30 := G29_ok.add ent_37 fun ar h r h1 ⟨a0, y, hy, e1, e2, e3, e4⟩ => by
  subst e3 e4; exact (impl_IsCleared.spec a0 y hy).le e1 e2
attribute [local irreducible] impl_IsCleared

noncomputable def laws_FnExactIsCleared (a0 : Ropeway) : Option (Bool) :=
  ((laws_szRopeway (a0.1, a0.2.1, a0.2.2.1, a0.2.2.2.1, a0.2.2.2.2.1, ()) (1048576 : Int)).bind fun y1 => (cond (decide (y1 < (0 : Int))) ((some true)) ((laws_toRopeway (a0.1, a0.2.1, a0.2.2.1, a0.2.2.2.1, a0.2.2.2.2.1, ())).bind fun y2 => ((spec_IsCleared (y2.1, y2.2.1, y2.2.2.1, y2.2.2.2.1, y2.2.2.2.2.1, ())).bind fun y3 => ((laws_toRopeway (a0.1, a0.2.1, a0.2.2.1, a0.2.2.2.1, a0.2.2.2.2.1, ())).bind fun y4 => ((impl_IsCleared (y4.1, y4.2.1, y4.2.2.1, y4.2.2.2.1, y4.2.2.2.2.1, ())).bind fun y5 => (cond (!(y5.1 == y3.1)) ((some false)) (cond (!(y5.2 == y3.2)) ((some false)) ((laws_toRopeway (a0.1, a0.2.1, a0.2.2.1, a0.2.2.2.1, a0.2.2.2.2.1, ())).bind fun y6 => ((laws_eqRopeway (y4.1, y4.2.1, y4.2.2.1, y4.2.2.2.1, y4.2.2.2.2.1, ()) (y6.1, y6.2.1, y6.2.2.1, y6.2.2.2.1, y6.2.2.2.2.1, ())).bind fun y7 => (cond (!y7) ((some false)) ((some true)))))))))))))
def laws_FnExactIsCleared.res (_ : Ropeway) (y : Bool) : AV := (.bl y)
def laws_FnExactIsCleared.out (_ : Ropeway) (_ : Bool) : List (Option LB) := []
def laws_FnExactIsCleared.S (ar : List AV) (h : List (Option LB)) (r : AV) (h1 : List (Option LB)) : Prop := ∃ a0 y, laws_FnExactIsCleared a0 = some y ∧ leL ar [(.agg [(.v (.int .i64 a0.1)), (.tree ty_Slot a0.2.1), (.v (.int .i64 a0.2.2.1)), (.v (.int .i64 a0.2.2.2.1)), (.v (.int .i64 a0.2.2.2.2.1))])] ∧ leH h [] ∧ r = laws_FnExactIsCleared.res a0 y ∧ h1 = laws_FnExactIsCleared.out a0 y
theorem laws_FnExactIsCleared.call {ar : List AV} {h : List (Option LB)} {a0 : Ropeway} {y : Bool} (H : laws_FnExactIsCleared a0 = some y) (h1 : leL ar [(.agg [(.v (.int .i64 a0.1)), (.tree ty_Slot a0.2.1), (.v (.int .i64 a0.2.2.1)), (.v (.int .i64 a0.2.2.2.1)), (.v (.int .i64 a0.2.2.2.2.1))])]) (h2 : leH h []) : laws_FnExactIsCleared.S ar h (laws_FnExactIsCleared.res a0 y) (laws_FnExactIsCleared.out a0 y) := ⟨a0, y, H, h1, h2, rfl, rfl⟩
set_option maxHeartbeats 4000000 in
set_option maxRecDepth 100000 in
theorem laws_FnExactIsCleared.spec (a0 : Ropeway) (y : Bool) (H : laws_FnExactIsCleared a0 = some y) : Spec Try.prog 7 [(.agg [(.v (.int .i64 a0.1)), (.tree ty_Slot a0.2.1), (.v (.int .i64 a0.2.2.1)), (.v (.int .i64 a0.2.2.2.1)), (.v (.int .i64 a0.2.2.2.2.1))])] [] (laws_FnExactIsCleared.res a0 y) (laws_FnExactIsCleared.out a0 y) := by
  refine spec_intro G30_ok (ct := []) Try.func7 rfl (by kernel_rfl) (by kernel_rfl) rfl ?_
  repeat' first
    | ((with_reducible refine eqg ?_); exact rfl)
    | ((with_reducible refine KOb.mk ?_); kernel_rfl)
    | ((with_reducible intro h); (repeat (first | replace H := grd_k H | replace H := out_step H (by assumption))); first | replace H := cond_t h H | replace H := cond_f h H)
    | ((with_reducible refine Ob.mk ?_); first | rfl | (repeat (first | exact grd_p H | replace H := grd_k H | replace H := out_step H (by assumption))))
    | (with_reducible exact True.intro)
    | constructor
    | ((conv => whnf); first
        | ((with_reducible refine Ob.mk ?_); first | rfl | (repeat (first | exact grd_p H | replace H := grd_k H | replace H := out_step H (by assumption))))
        | ((with_reducible refine CallW.mk ?_); (repeat (first | replace H := grd_k H | replace H := out_step H (by assumption))); obtain ⟨y, hy, H⟩ := bind_some H; first | ((with_reducible have hz : laws_szRopeway _ _ = some y := hy); clear hz; refine Exists.intro _ (Exists.intro _ ⟨laws_szRopeway.call hy ?_ ?_, rfl, rfl, ?_⟩)) | ((with_reducible have hz : laws_toRopeway _ = some y := hy); clear hz; refine Exists.intro _ (Exists.intro _ ⟨laws_toRopeway.call hy ?_ ?_, rfl, rfl, ?_⟩)) | ((with_reducible have hz : spec_IsCleared _ = some y := hy); clear hz; refine Exists.intro _ (Exists.intro _ ⟨spec_IsCleared.call hy ?_ ?_, rfl, rfl, ?_⟩)) | ((with_reducible have hz : impl_IsCleared _ = some y := hy); clear hz; refine Exists.intro _ (Exists.intro _ ⟨impl_IsCleared.call hy ?_ ?_, rfl, rfl, ?_⟩)) | ((with_reducible have hz : laws_eqRopeway _ _ = some y := hy); clear hz; refine Exists.intro _ (Exists.intro _ ⟨laws_eqRopeway.call hy ?_ ?_, rfl, rfl, ?_⟩)))
        | ((with_reducible refine fin_mk ?_); (repeat (first | replace H := grd_k H | replace H := out_step H (by assumption))); have H := Option.some.inj H; subst H))
def G31 : Env := G30.add 7 [] laws_FnExactIsCleared.S
theorem G31_ok : EnvOk Try.prog G31 := G30_ok.add ent_7 fun ar h r h1 ⟨a0, y, hy, e1, e2, e3, e4⟩ => by
  subst e3 e4; exact (laws_FnExactIsCleared.spec a0 y hy).le e1 e2
attribute [local irreducible] laws_FnExactIsCleared

noncomputable def spec_PeopleOn (a0 : Ropeway) : Option (Int × Int × Bool) :=
  ((spec_l25Good (a0.1, a0.2.1, a0.2.2.1, a0.2.2.2.1, a0.2.2.2.2.1, ())).bind fun y1 => (cond (!y1) ((some ((0 : Int), (0 : Int), false))) ((spec_l25Sum (a0.1, a0.2.1, a0.2.2.1, a0.2.2.2.1, a0.2.2.2.2.1, ())).bind fun y2 => (some (y2.1, y2.2, true)))))
def spec_PeopleOn.res (_ : Ropeway) (y : Int × Int × Bool) : AV := (.tup [(.v (.int .i64 y.1)), (.v (.int .i64 y.2.1)), (.bl y.2.2)])
def spec_PeopleOn.out (_ : Ropeway) (_ : Int × Int × Bool) : List (Option LB) := []
def spec_PeopleOn.S (ar : List AV) (h : List (Option LB)) (r : AV) (h1 : List (Option LB)) : Prop := ∃ a0 y, spec_PeopleOn a0 = some y ∧ leL ar [(.agg [(.v (.int .i64 a0.1)), (.tree ty_Slot a0.2.1), (.v (.int .i64 a0.2.2.1)), (.v (.int .i64 a0.2.2.2.1)), (.v (.int .i64 a0.2.2.2.2.1))])] ∧ leH h [] ∧ r = spec_PeopleOn.res a0 y ∧ h1 = spec_PeopleOn.out a0 y
theorem spec_PeopleOn.call {ar : List AV} {h : List (Option LB)} {a0 : Ropeway} {y : Int × Int × Bool} (H : spec_PeopleOn a0 = some y) (h1 : leL ar [(.agg [(.v (.int .i64 a0.1)), (.tree ty_Slot a0.2.1), (.v (.int .i64 a0.2.2.1)), (.v (.int .i64 a0.2.2.2.1)), (.v (.int .i64 a0.2.2.2.2.1))])]) (h2 : leH h []) : spec_PeopleOn.S ar h (spec_PeopleOn.res a0 y) (spec_PeopleOn.out a0 y) := ⟨a0, y, H, h1, h2, rfl, rfl⟩
set_option maxHeartbeats 4000000 in
set_option maxRecDepth 100000 in
theorem spec_PeopleOn.spec (a0 : Ropeway) (y : Int × Int × Bool) (H : spec_PeopleOn a0 = some y) : Spec Try.prog 38 [(.agg [(.v (.int .i64 a0.1)), (.tree ty_Slot a0.2.1), (.v (.int .i64 a0.2.2.1)), (.v (.int .i64 a0.2.2.2.1)), (.v (.int .i64 a0.2.2.2.2.1))])] [] (spec_PeopleOn.res a0 y) (spec_PeopleOn.out a0 y) := by
  refine spec_intro G31_ok (ct := []) Try.func38 rfl (by kernel_rfl) (by kernel_rfl) rfl ?_
  repeat' first
    | ((with_reducible refine eqg ?_); exact rfl)
    | ((with_reducible refine KOb.mk ?_); kernel_rfl)
    | ((with_reducible intro h); (repeat (first | replace H := grd_k H | replace H := out_step H (by assumption))); first | replace H := cond_t h H | replace H := cond_f h H)
    | ((with_reducible refine Ob.mk ?_); first | rfl | (repeat (first | exact grd_p H | replace H := grd_k H | replace H := out_step H (by assumption))))
    | (with_reducible exact True.intro)
    | constructor
    | ((conv => whnf); first
        | ((with_reducible refine Ob.mk ?_); first | rfl | (repeat (first | exact grd_p H | replace H := grd_k H | replace H := out_step H (by assumption))))
        | ((with_reducible refine CallW.mk ?_); (repeat (first | replace H := grd_k H | replace H := out_step H (by assumption))); obtain ⟨y, hy, H⟩ := bind_some H; first | ((with_reducible have hz : spec_l25Good _ = some y := hy); clear hz; refine Exists.intro _ (Exists.intro _ ⟨spec_l25Good.call hy ?_ ?_, rfl, rfl, ?_⟩)) | ((with_reducible have hz : spec_l25Sum _ = some y := hy); clear hz; refine Exists.intro _ (Exists.intro _ ⟨spec_l25Sum.call hy ?_ ?_, rfl, rfl, ?_⟩)))
        | ((with_reducible refine fin_mk ?_); (repeat (first | replace H := grd_k H | replace H := out_step H (by assumption))); have H := Option.some.inj H; subst H))
def G32 : Env := G31.add 38 [] spec_PeopleOn.S
theorem G32_ok : EnvOk Try.prog G32 := G31_ok.add ent_38 fun ar h r h1 ⟨a0, y, hy, e1, e2, e3, e4⟩ => by
  subst e3 e4; exact (spec_PeopleOn.spec a0 y hy).le e1 e2
attribute [local irreducible] spec_PeopleOn

noncomputable def impl_PeopleOn (a0 : Ropeway) : Option (Int × Int × Bool) :=
  ((impl_IsRopeway (a0.1, a0.2.1, a0.2.2.1, a0.2.2.2.1, a0.2.2.2.2.1, ())).bind fun y1 => (cond (!y1) ((some ((0 : Int), (0 : Int), false))) ((impl_Ropeway_peopleOn (a0.1, a0.2.1, a0.2.2.1, a0.2.2.2.1, a0.2.2.2.2.1, ())).bind fun y2 => (some (y2.1, y2.2, true)))))
def impl_PeopleOn.res (_ : Ropeway) (y : Int × Int × Bool) : AV := (.tup [(.v (.int .i64 y.1)), (.v (.int .i64 y.2.1)), (.bl y.2.2)])
def impl_PeopleOn.out (_ : Ropeway) (_ : Int × Int × Bool) : List (Option LB) := []
def impl_PeopleOn.S (ar : List AV) (h : List (Option LB)) (r : AV) (h1 : List (Option LB)) : Prop := ∃ a0 y, impl_PeopleOn a0 = some y ∧ leL ar [(.agg [(.v (.int .i64 a0.1)), (.tree ty_Slot a0.2.1), (.v (.int .i64 a0.2.2.1)), (.v (.int .i64 a0.2.2.2.1)), (.v (.int .i64 a0.2.2.2.2.1))])] ∧ leH h [] ∧ r = impl_PeopleOn.res a0 y ∧ h1 = impl_PeopleOn.out a0 y
theorem impl_PeopleOn.call {ar : List AV} {h : List (Option LB)} {a0 : Ropeway} {y : Int × Int × Bool} (H : impl_PeopleOn a0 = some y) (h1 : leL ar [(.agg [(.v (.int .i64 a0.1)), (.tree ty_Slot a0.2.1), (.v (.int .i64 a0.2.2.1)), (.v (.int .i64 a0.2.2.2.1)), (.v (.int .i64 a0.2.2.2.2.1))])]) (h2 : leH h []) : impl_PeopleOn.S ar h (impl_PeopleOn.res a0 y) (impl_PeopleOn.out a0 y) := ⟨a0, y, H, h1, h2, rfl, rfl⟩
set_option maxHeartbeats 4000000 in
set_option maxRecDepth 100000 in
theorem impl_PeopleOn.spec (a0 : Ropeway) (y : Int × Int × Bool) (H : impl_PeopleOn a0 = some y) : Spec Try.prog 24 [(.agg [(.v (.int .i64 a0.1)), (.tree ty_Slot a0.2.1), (.v (.int .i64 a0.2.2.1)), (.v (.int .i64 a0.2.2.2.1)), (.v (.int .i64 a0.2.2.2.2.1))])] [] (impl_PeopleOn.res a0 y) (impl_PeopleOn.out a0 y) := by
  refine spec_intro G32_ok (ct := []) Try.func24 rfl (by kernel_rfl) (by kernel_rfl) rfl ?_
  repeat' first
    | ((with_reducible refine eqg ?_); exact rfl)
    | ((with_reducible refine KOb.mk ?_); kernel_rfl)
    | ((with_reducible intro h); (repeat (first | replace H := grd_k H | replace H := out_step H (by assumption))); first | replace H := cond_t h H | replace H := cond_f h H)
    | ((with_reducible refine Ob.mk ?_); first | rfl | (repeat (first | exact grd_p H | replace H := grd_k H | replace H := out_step H (by assumption))))
    | (with_reducible exact True.intro)
    | constructor
    | ((conv => whnf); first
        | ((with_reducible refine Ob.mk ?_); first | rfl | (repeat (first | exact grd_p H | replace H := grd_k H | replace H := out_step H (by assumption))))
        | ((with_reducible refine CallW.mk ?_); (repeat (first | replace H := grd_k H | replace H := out_step H (by assumption))); obtain ⟨y, hy, H⟩ := bind_some H; first | ((with_reducible have hz : impl_IsRopeway _ = some y := hy); clear hz; refine Exists.intro _ (Exists.intro _ ⟨impl_IsRopeway.call hy ?_ ?_, rfl, rfl, ?_⟩)) | ((with_reducible have hz : impl_Ropeway_peopleOn _ = some y := hy); clear hz; refine Exists.intro _ (Exists.intro _ ⟨impl_Ropeway_peopleOn.call hy ?_ ?_, rfl, rfl, ?_⟩)))
        | ((with_reducible refine fin_mk ?_); (repeat (first | replace H := grd_k H | replace H := out_step H (by assumption))); have H := Option.some.inj H; subst H))
def G33 : Env := G32.add 24 [] impl_PeopleOn.S
theorem G33_ok : EnvOk Try.prog G33 := G32_ok.add ent_24 fun ar h r h1 ⟨a0, y, hy, e1, e2, e3, e4⟩ => by
  subst e3 e4; exact (impl_PeopleOn.spec a0 y hy).le e1 e2
attribute [local irreducible] impl_PeopleOn

noncomputable def laws_FnExactPeopleOn (a0 : Ropeway) : Option (Bool) :=
  ((laws_szRopeway (a0.1, a0.2.1, a0.2.2.1, a0.2.2.2.1, a0.2.2.2.2.1, ()) (1048576 : Int)).bind fun y1 => (cond (decide (y1 < (0 : Int))) ((some true)) ((laws_toRopeway (a0.1, a0.2.1, a0.2.2.1, a0.2.2.2.1, a0.2.2.2.2.1, ())).bind fun y2 => ((spec_PeopleOn (y2.1, y2.2.1, y2.2.2.1, y2.2.2.2.1, y2.2.2.2.2.1, ())).bind fun y3 => ((laws_toRopeway (a0.1, a0.2.1, a0.2.2.1, a0.2.2.2.1, a0.2.2.2.2.1, ())).bind fun y4 => ((impl_PeopleOn (y4.1, y4.2.1, y4.2.2.1, y4.2.2.2.1, y4.2.2.2.2.1, ())).bind fun y5 => (cond (!decide (y5.1 = y3.1)) ((some false)) (cond (!decide (y5.2.1 = y3.2.1)) ((some false)) (cond (!(y5.2.2 == y3.2.2)) ((some false)) ((laws_toRopeway (a0.1, a0.2.1, a0.2.2.1, a0.2.2.2.1, a0.2.2.2.2.1, ())).bind fun y6 => ((laws_eqRopeway (y4.1, y4.2.1, y4.2.2.1, y4.2.2.2.1, y4.2.2.2.2.1, ()) (y6.1, y6.2.1, y6.2.2.1, y6.2.2.2.1, y6.2.2.2.2.1, ())).bind fun y7 => (cond (!y7) ((some false)) ((some true))))))))))))))
def laws_FnExactPeopleOn.res (_ : Ropeway) (y : Bool) : AV := (.bl y)
def laws_FnExactPeopleOn.out (_ : Ropeway) (_ : Bool) : List (Option LB) := []
def laws_FnExactPeopleOn.S (ar : List AV) (h : List (Option LB)) (r : AV) (h1 : List (Option LB)) : Prop := ∃ a0 y, laws_FnExactPeopleOn a0 = some y ∧ leL ar [(.agg [(.v (.int .i64 a0.1)), (.tree ty_Slot a0.2.1), (.v (.int .i64 a0.2.2.1)), (.v (.int .i64 a0.2.2.2.1)), (.v (.int .i64 a0.2.2.2.2.1))])] ∧ leH h [] ∧ r = laws_FnExactPeopleOn.res a0 y ∧ h1 = laws_FnExactPeopleOn.out a0 y
theorem laws_FnExactPeopleOn.call {ar : List AV} {h : List (Option LB)} {a0 : Ropeway} {y : Bool} (H : laws_FnExactPeopleOn a0 = some y) (h1 : leL ar [(.agg [(.v (.int .i64 a0.1)), (.tree ty_Slot a0.2.1), (.v (.int .i64 a0.2.2.1)), (.v (.int .i64 a0.2.2.2.1)), (.v (.int .i64 a0.2.2.2.2.1))])]) (h2 : leH h []) : laws_FnExactPeopleOn.S ar h (laws_FnExactPeopleOn.res a0 y) (laws_FnExactPeopleOn.out a0 y) := ⟨a0, y, H, h1, h2, rfl, rfl⟩
set_option maxHeartbeats 4000000 in
set_option maxRecDepth 100000 in
theorem laws_FnExactPeopleOn.spec (a0 : Ropeway) (y : Bool) (H : laws_FnExactPeopleOn a0 = some y) : Spec Try.prog 8 [(.agg [(.v (.int .i64 a0.1)), (.tree ty_Slot a0.2.1), (.v (.int .i64 a0.2.2.1)), (.v (.int .i64 a0.2.2.2.1)), (.v (.int .i64 a0.2.2.2.2.1))])] [] (laws_FnExactPeopleOn.res a0 y) (laws_FnExactPeopleOn.out a0 y) := by
  refine spec_intro G33_ok (ct := []) Try.func8 rfl (by kernel_rfl) (by kernel_rfl) rfl ?_
  repeat' first
    | ((with_reducible refine eqg ?_); exact rfl)
    | ((with_reducible refine KOb.mk ?_); kernel_rfl)
    | ((with_reducible intro h); (repeat (first | replace H := grd_k H | replace H := out_step H (by assumption))); first | replace H := cond_t h H | replace H := cond_f h H)
    | ((with_reducible refine Ob.mk ?_); first | rfl | (repeat (first | exact grd_p H | replace H := grd_k H | replace H := out_step H (by assumption))))
    | (with_reducible exact True.intro)
    | constructor
    | ((conv => whnf); first
        | ((with_reducible refine Ob.mk ?_); first | rfl | (repeat (first | exact grd_p H | replace H := grd_k H | replace H := out_step H (by assumption))))
        | ((with_reducible refine CallW.mk ?_); (repeat (first | replace H := grd_k H | replace H := out_step H (by assumption))); obtain ⟨y, hy, H⟩ := bind_some H; first | ((with_reducible have hz : laws_szRopeway _ _ = some y := hy); clear hz; refine Exists.intro _ (Exists.intro _ ⟨laws_szRopeway.call hy ?_ ?_, rfl, rfl, ?_⟩)) | ((with_reducible have hz : laws_toRopeway _ = some y := hy); clear hz; refine Exists.intro _ (Exists.intro _ ⟨laws_toRopeway.call hy ?_ ?_, rfl, rfl, ?_⟩)) | ((with_reducible have hz : spec_PeopleOn _ = some y := hy); clear hz; refine Exists.intro _ (Exists.intro _ ⟨spec_PeopleOn.call hy ?_ ?_, rfl, rfl, ?_⟩)) | ((with_reducible have hz : impl_PeopleOn _ = some y := hy); clear hz; refine Exists.intro _ (Exists.intro _ ⟨impl_PeopleOn.call hy ?_ ?_, rfl, rfl, ?_⟩)) | ((with_reducible have hz : laws_eqRopeway _ _ = some y := hy); clear hz; refine Exists.intro _ (Exists.intro _ ⟨laws_eqRopeway.call hy ?_ ?_, rfl, rfl, ?_⟩)))
        | ((with_reducible refine fin_mk ?_); (repeat (first | replace H := grd_k H | replace H := out_step H (by assumption))); have H := Option.some.inj H; subst H))
def G34 : Env := G33.add 8 [] laws_FnExactPeopleOn.S
theorem G34_ok : EnvOk Try.prog G34 := G33_ok.add ent_8 fun ar h r h1 ⟨a0, y, hy, e1, e2, e3, e4⟩ => by
  subst e3 e4; exact (laws_FnExactPeopleOn.spec a0 y hy).le e1 e2
attribute [local irreducible] laws_FnExactPeopleOn

noncomputable def spec_TurnsTo (a0 : Ropeway) (a1 : Int) (a2 : Bool) : Option (Int × Bool) :=
  ((spec_CabinAt (a0.1, a0.2.1, a0.2.2.1, a0.2.2.2.1, a0.2.2.2.2.1, ()) a1).bind fun y1 => (cond (!y1.2) ((some ((0 : Int), false))) (cond a2 (grd ((2 : Int) ≠ 0) (grd ((a0.2.1.length : Int) ≠ 0) ((some ((Int.tmod (w64 ((w64 ((w64 (Int.tdiv (a0.2.1.length : Int) (2 : Int))) - y1.1)) + (a0.2.1.length : Int))) (a0.2.1.length : Int)), true))))) (grd ((a0.2.1.length : Int) ≠ 0) ((some ((Int.tmod (w64 ((w64 ((0 : Int) - y1.1)) + (a0.2.1.length : Int))) (a0.2.1.length : Int)), true)))))))
def spec_TurnsTo.res (_ : Ropeway) (_ : Int) (_ : Bool) (y : Int × Bool) : AV := (.tup [(.v (.int .i64 y.1)), (.bl y.2)])
def spec_TurnsTo.out (_ : Ropeway) (_ : Int) (_ : Bool) (_ : Int × Bool) : List (Option LB) := []
def spec_TurnsTo.S (ar : List AV) (h : List (Option LB)) (r : AV) (h1 : List (Option LB)) : Prop := ∃ a0 a1 a2 y, spec_TurnsTo a0 a1 a2 = some y ∧ leL ar [(.agg [(.v (.int .i64 a0.1)), (.tree ty_Slot a0.2.1), (.v (.int .i64 a0.2.2.1)), (.v (.int .i64 a0.2.2.2.1)), (.v (.int .i64 a0.2.2.2.2.1))]), (.v (.int .i64 a1)), (.bl a2)] ∧ leH h [] ∧ r = spec_TurnsTo.res a0 a1 a2 y ∧ h1 = spec_TurnsTo.out a0 a1 a2 y
theorem spec_TurnsTo.call {ar : List AV} {h : List (Option LB)} {a0 : Ropeway} {a1 : Int} {a2 : Bool} {y : Int × Bool} (H : spec_TurnsTo a0 a1 a2 = some y) (h1 : leL ar [(.agg [(.v (.int .i64 a0.1)), (.tree ty_Slot a0.2.1), (.v (.int .i64 a0.2.2.1)), (.v (.int .i64 a0.2.2.2.1)), (.v (.int .i64 a0.2.2.2.2.1))]), (.v (.int .i64 a1)), (.bl a2)]) (h2 : leH h []) : spec_TurnsTo.S ar h (spec_TurnsTo.res a0 a1 a2 y) (spec_TurnsTo.out a0 a1 a2 y) := ⟨a0, a1, a2, y, H, h1, h2, rfl, rfl⟩
set_option maxHeartbeats 4000000 in
set_option maxRecDepth 100000 in
theorem spec_TurnsTo.spec (a0 : Ropeway) (a1 : Int) (a2 : Bool) (y : Int × Bool) (H : spec_TurnsTo a0 a1 a2 = some y) : Spec Try.prog 39 [(.agg [(.v (.int .i64 a0.1)), (.tree ty_Slot a0.2.1), (.v (.int .i64 a0.2.2.1)), (.v (.int .i64 a0.2.2.2.1)), (.v (.int .i64 a0.2.2.2.2.1))]), (.v (.int .i64 a1)), (.bl a2)] [] (spec_TurnsTo.res a0 a1 a2 y) (spec_TurnsTo.out a0 a1 a2 y) := by
  refine spec_intro G34_ok (ct := []) Try.func39 rfl (by kernel_rfl) (by kernel_rfl) rfl ?_
  repeat' first
    | ((with_reducible refine eqg ?_); exact rfl)
    | ((with_reducible refine KOb.mk ?_); kernel_rfl)
    | ((with_reducible intro h); (repeat (first | replace H := grd_k H | replace H := out_step H (by assumption))); first | replace H := cond_t h H | replace H := cond_f h H)
    | ((with_reducible refine Ob.mk ?_); first | rfl | (repeat (first | exact grd_p H | replace H := grd_k H | replace H := out_step H (by assumption))))
    | (with_reducible exact True.intro)
    | constructor
    | ((conv => whnf); first
        | ((with_reducible refine Ob.mk ?_); first | rfl | (repeat (first | exact grd_p H | replace H := grd_k H | replace H := out_step H (by assumption))))
        | ((with_reducible refine CallW.mk ?_); (repeat (first | replace H := grd_k H | replace H := out_step H (by assumption))); obtain ⟨y, hy, H⟩ := bind_some H; first | ((with_reducible have hz : spec_CabinAt _ _ = some y := hy); clear hz; refine Exists.intro _ (Exists.intro _ ⟨spec_CabinAt.call hy ?_ ?_, rfl, rfl, ?_⟩)))
        | ((with_reducible refine fin_mk ?_); (repeat (first | replace H := grd_k H | replace H := out_step H (by assumption))); have H := Option.some.inj H; subst H))
def G35 : Env := G34.add 39 [] spec_TurnsTo.S
theorem G35_ok : EnvOk Try.prog G35 := G34_ok.add ent_39 fun ar h r h1 ⟨a0, a1, a2, y, hy, e1, e2, e3, e4⟩ => by
  subst e3 e4; exact (spec_TurnsTo.spec a0 a1 a2 y hy).le e1 e2
attribute [local irreducible] spec_TurnsTo

noncomputable def impl_TurnsTo (a0 : Ropeway) (a1 : Int) (a2 : Bool) : Option (Int × Bool) :=
  ((impl_CabinAt (a0.1, a0.2.1, a0.2.2.1, a0.2.2.2.1, a0.2.2.2.2.1, ()) a1).bind fun y1 => (cond (!y1.2) ((some ((0 : Int), false))) (cond a2 (grd ((2 : Int) ≠ 0) (grd ((a0.2.1.length : Int) ≠ 0) ((some ((Int.tmod (w64 ((w64 ((w64 (Int.tdiv (a0.2.1.length : Int) (2 : Int))) - y1.1)) + (a0.2.1.length : Int))) (a0.2.1.length : Int)), true))))) (grd ((a0.2.1.length : Int) ≠ 0) ((some ((Int.tmod (w64 ((w64 ((0 : Int) - y1.1)) + (a0.2.1.length : Int))) (a0.2.1.length : Int)), true)))))))
def impl_TurnsTo.res (_ : Ropeway) (_ : Int) (_ : Bool) (y : Int × Bool) : AV := (.tup [(.v (.int .i64 y.1)), (.bl y.2)])
def impl_TurnsTo.out (_ : Ropeway) (_ : Int) (_ : Bool) (_ : Int × Bool) : List (Option LB) := []
def impl_TurnsTo.S (ar : List AV) (h : List (Option LB)) (r : AV) (h1 : List (Option LB)) : Prop := ∃ a0 a1 a2 y, impl_TurnsTo a0 a1 a2 = some y ∧ leL ar [(.agg [(.v (.int .i64 a0.1)), (.tree ty_Slot a0.2.1), (.v (.int .i64 a0.2.2.1)), (.v (.int .i64 a0.2.2.2.1)), (.v (.int .i64 a0.2.2.2.2.1))]), (.v (.int .i64 a1)), (.bl a2)] ∧ leH h [] ∧ r = impl_TurnsTo.res a0 a1 a2 y ∧ h1 = impl_TurnsTo.out a0 a1 a2 y
theorem impl_TurnsTo.call {ar : List AV} {h : List (Option LB)} {a0 : Ropeway} {a1 : Int} {a2 : Bool} {y : Int × Bool} (H : impl_TurnsTo a0 a1 a2 = some y) (h1 : leL ar [(.agg [(.v (.int .i64 a0.1)), (.tree ty_Slot a0.2.1), (.v (.int .i64 a0.2.2.1)), (.v (.int .i64 a0.2.2.2.1)), (.v (.int .i64 a0.2.2.2.2.1))]), (.v (.int .i64 a1)), (.bl a2)]) (h2 : leH h []) : impl_TurnsTo.S ar h (impl_TurnsTo.res a0 a1 a2 y) (impl_TurnsTo.out a0 a1 a2 y) := ⟨a0, a1, a2, y, H, h1, h2, rfl, rfl⟩
set_option maxHeartbeats 4000000 in
set_option maxRecDepth 100000 in
theorem impl_TurnsTo.spec (a0 : Ropeway) (a1 : Int) (a2 : Bool) (y : Int × Bool) (H : impl_TurnsTo a0 a1 a2 = some y) : Spec Try.prog 40 [(.agg [(.v (.int .i64 a0.1)), (.tree ty_Slot a0.2.1), (.v (.int .i64 a0.2.2.1)), (.v (.int .i64 a0.2.2.2.1)), (.v (.int .i64 a0.2.2.2.2.1))]), (.v (.int .i64 a1)), (.bl a2)] [] (impl_TurnsTo.res a0 a1 a2 y) (impl_TurnsTo.out a0 a1 a2 y) := by
  refine spec_intro G35_ok (ct := []) Try.func40 rfl (by kernel_rfl) (by kernel_rfl) rfl ?_
  repeat' first
    | ((with_reducible refine eqg ?_); exact rfl)
    | ((with_reducible refine KOb.mk ?_); kernel_rfl)
    | ((with_reducible intro h); (repeat (first | replace H := grd_k H | replace H := out_step H (by assumption))); first | replace H := cond_t h H | replace H := cond_f h H)
    | ((with_reducible refine Ob.mk ?_); first | rfl | (repeat (first | exact grd_p H | replace H := grd_k H | replace H := out_step H (by assumption))))
    | (with_reducible exact True.intro)
    | constructor
    | ((conv => whnf); first
        | ((with_reducible refine Ob.mk ?_); first | rfl | (repeat (first | exact grd_p H | replace H := grd_k H | replace H := out_step H (by assumption))))
        | ((with_reducible refine CallW.mk ?_); (repeat (first | replace H := grd_k H | replace H := out_step H (by assumption))); obtain ⟨y, hy, H⟩ := bind_some H; first | ((with_reducible have hz : impl_CabinAt _ _ = some y := hy); clear hz; refine Exists.intro _ (Exists.intro _ ⟨impl_CabinAt.call hy ?_ ?_, rfl, rfl, ?_⟩)))
        | ((with_reducible refine fin_mk ?_); (repeat (first | replace H := grd_k H | replace H := out_step H (by assumption))); have H := Option.some.inj H; subst H))
def G36 : Env := G35.add 40 [] impl_TurnsTo.S
theorem G36_ok : EnvOk Try.prog G36 := G35_ok.add ent_40 fun ar h r h1 ⟨a0, a1, a2, y, hy, e1, e2, e3, e4⟩ => by
  subst e3 e4; exact (impl_TurnsTo.spec a0 a1 a2 y hy).le e1 e2
attribute [local irreducible] impl_TurnsTo

noncomputable def laws_FnExactTurnsTo (a0 : Ropeway) (a1 : Int) (a2 : Bool) : Option (Bool) :=
  ((laws_szRopeway (a0.1, a0.2.1, a0.2.2.1, a0.2.2.2.1, a0.2.2.2.2.1, ()) (1048576 : Int)).bind fun y1 => (cond (decide (y1 < (0 : Int))) ((some true)) ((laws_toRopeway (a0.1, a0.2.1, a0.2.2.1, a0.2.2.2.1, a0.2.2.2.2.1, ())).bind fun y2 => ((spec_TurnsTo (y2.1, y2.2.1, y2.2.2.1, y2.2.2.2.1, y2.2.2.2.2.1, ()) a1 a2).bind fun y3 => ((laws_toRopeway (a0.1, a0.2.1, a0.2.2.1, a0.2.2.2.1, a0.2.2.2.2.1, ())).bind fun y4 => ((impl_TurnsTo (y4.1, y4.2.1, y4.2.2.1, y4.2.2.2.1, y4.2.2.2.2.1, ()) a1 a2).bind fun y5 => (cond (!decide (y5.1 = y3.1)) ((some false)) (cond (!(y5.2 == y3.2)) ((some false)) ((laws_toRopeway (a0.1, a0.2.1, a0.2.2.1, a0.2.2.2.1, a0.2.2.2.2.1, ())).bind fun y6 => ((laws_eqRopeway (y4.1, y4.2.1, y4.2.2.1, y4.2.2.2.1, y4.2.2.2.2.1, ()) (y6.1, y6.2.1, y6.2.2.1, y6.2.2.2.1, y6.2.2.2.2.1, ())).bind fun y7 => (cond (!y7) ((some false)) ((some true)))))))))))))
def laws_FnExactTurnsTo.res (_ : Ropeway) (_ : Int) (_ : Bool) (y : Bool) : AV := (.bl y)
def laws_FnExactTurnsTo.out (_ : Ropeway) (_ : Int) (_ : Bool) (_ : Bool) : List (Option LB) := []
def laws_FnExactTurnsTo.S (ar : List AV) (h : List (Option LB)) (r : AV) (h1 : List (Option LB)) : Prop := ∃ a0 a1 a2 y, laws_FnExactTurnsTo a0 a1 a2 = some y ∧ leL ar [(.agg [(.v (.int .i64 a0.1)), (.tree ty_Slot a0.2.1), (.v (.int .i64 a0.2.2.1)), (.v (.int .i64 a0.2.2.2.1)), (.v (.int .i64 a0.2.2.2.2.1))]), (.v (.int .i64 a1)), (.bl a2)] ∧ leH h [] ∧ r = laws_FnExactTurnsTo.res a0 a1 a2 y ∧ h1 = laws_FnExactTurnsTo.out a0 a1 a2 y
theorem laws_FnExactTurnsTo.call {ar : List AV} {h : List (Option LB)} {a0 : Ropeway} {a1 : Int} {a2 : Bool} {y : Bool} (H : laws_FnExactTurnsTo a0 a1 a2 = some y) (h1 : leL ar [(.agg [(.v (.int .i64 a0.1)), (.tree ty_Slot a0.2.1), (.v (.int .i64 a0.2.2.1)), (.v (.int .i64 a0.2.2.2.1)), (.v (.int .i64 a0.2.2.2.2.1))]), (.v (.int .i64 a1)), (.bl a2)]) (h2 : leH h []) : laws_FnExactTurnsTo.S ar h (laws_FnExactTurnsTo.res a0 a1 a2 y) (laws_FnExactTurnsTo.out a0 a1 a2 y) := ⟨a0, a1, a2, y, H, h1, h2, rfl, rfl⟩
set_option maxHeartbeats 4000000 in
set_option maxRecDepth 100000 in
theorem laws_FnExactTurnsTo.spec (a0 : Ropeway) (a1 : Int) (a2 : Bool) (y : Bool) (H : laws_FnExactTurnsTo a0 a1 a2 = some y) : Spec Try.prog 9 [(.agg [(.v (.int .i64 a0.1)), (.tree ty_Slot a0.2.1), (.v (.int .i64 a0.2.2.1)), (.v (.int .i64 a0.2.2.2.1)), (.v (.int .i64 a0.2.2.2.2.1))]), (.v (.int .i64 a1)), (.bl a2)] [] (laws_FnExactTurnsTo.res a0 a1 a2 y) (laws_FnExactTurnsTo.out a0 a1 a2 y) := by
  refine spec_intro G36_ok (ct := []) Try.func9 rfl (by kernel_rfl) (by kernel_rfl) rfl ?_
  repeat' first
    | ((with_reducible refine eqg ?_); exact rfl)
    | ((with_reducible refine KOb.mk ?_); kernel_rfl)
    | ((with_reducible intro h); (repeat (first | replace H := grd_k H | replace H := out_step H (by assumption))); first | replace H := cond_t h H | replace H := cond_f h H)
    | ((with_reducible refine Ob.mk ?_); first | rfl | (repeat (first | exact grd_p H | replace H := grd_k H | replace H := out_step H (by assumption))))
    | (with_reducible exact True.intro)
    | constructor
    | ((conv => whnf); first
        | ((with_reducible refine Ob.mk ?_); first | rfl | (repeat (first | exact grd_p H | replace H := grd_k H | replace H := out_step H (by assumption))))
        | ((with_reducible refine CallW.mk ?_); (repeat (first | replace H := grd_k H | replace H := out_step H (by assumption))); obtain ⟨y, hy, H⟩ := bind_some H; first | ((with_reducible have hz : laws_szRopeway _ _ = some y := hy); clear hz; refine Exists.intro _ (Exists.intro _ ⟨laws_szRopeway.call hy ?_ ?_, rfl, rfl, ?_⟩)) | ((with_reducible have hz : laws_toRopeway _ = some y := hy); clear hz; refine Exists.intro _ (Exists.intro _ ⟨laws_toRopeway.call hy ?_ ?_, rfl, rfl, ?_⟩)) | ((with_reducible have hz : spec_TurnsTo _ _ _ = some y := hy); clear hz; refine Exists.intro _ (Exists.intro _ ⟨spec_TurnsTo.call hy ?_ ?_, rfl, rfl, ?_⟩)) | ((with_reducible have hz : impl_TurnsTo _ _ _ = some y := hy); clear hz; refine Exists.intro _ (Exists.intro _ ⟨impl_TurnsTo.call hy ?_ ?_, rfl, rfl, ?_⟩)) | ((with_reducible have hz : laws_eqRopeway _ _ = some y := hy); clear hz; refine Exists.intro _ (Exists.intro _ ⟨laws_eqRopeway.call hy ?_ ?_, rfl, rfl, ?_⟩)))
        | ((with_reducible refine fin_mk ?_); (repeat (first | replace H := grd_k H | replace H := out_step H (by assumption))); have H := Option.some.inj H; subst H))
def G37 : Env := G36.add 9 [] laws_FnExactTurnsTo.S
theorem G37_ok : EnvOk Try.prog G37 := G36_ok.add ent_9 fun ar h r h1 ⟨a0, a1, a2, y, hy, e1, e2, e3, e4⟩ => by
  subst e3 e4; exact (laws_FnExactTurnsTo.spec a0 a1 a2 y hy).le e1 e2
attribute [local irreducible] laws_FnExactTurnsTo

end Go.Proofs.Ytdlgljedjdnepaa
