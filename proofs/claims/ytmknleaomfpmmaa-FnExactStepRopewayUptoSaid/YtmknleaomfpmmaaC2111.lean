/-
  Contracts, printed by a program.
-/
import Derived.Test.YtmknleaomfpmmaaC2110
namespace Go.Proofs.Ytmknleaomfpmmaa
open Go.RowKit
attribute [local irreducible] Ob loopwp Sub Spec Fin Again CallW CutC KOb iter joinx outm

attribute [local irreducible] laws_szSlotS laws_szRopeway laws_toSlot laws_toSlotS laws_toRopeway laws_toRopeStep spec_l1In spec_l25Slot spec_l25Good spec_l25Step spec_l25Own spec_l25Open spec_l25Find spec_l25Rope spec_l25Station spec_l25People spec_l25Make spec_StepRopeway impl_within impl_Ropeway_isStation impl_IsRopeway_1_i1 slices_IndexFunc___impl_Slot_impl_Slot__i1 slices_ContainsFunc___impl_Slot_impl_Slot__i1 impl_IsRopeway slices_Clone___impl_Slot_impl_Slot_ impl_copyRopeway impl_Ropeway_act_1 slices_Grow___impl_Slot_impl_Slot__i1 slices_Concat___impl_Slot_impl_Slot_ impl_Ropeway_cabinAt_1_i1 slices_IndexFunc___impl_Slot_impl_Slot__i2 impl_Ropeway_cabinAt impl_Ropeway_stationOf slices_IndexFunc___impl_Slot_impl_Slot__i3 slices_ContainsFunc___impl_Slot_impl_Slot__i2 impl_Ropeway_act impl_Ropeway_step impl_StepRopeway laws_eqSlot laws_eqSlotS

noncomputable def laws_eqRopeway (a0 : Ropeway) (a1 : Ropeway) : Option (Bool) :=
  (cond (!decide (a0.1 = a1.1)) ((some false)) ((laws_eqSlotS a0.2.1 a1.2.1).bind fun y1 => (cond (!y1) ((some false)) (cond (!decide (a0.2.2.1 = a1.2.2.1)) ((some false)) (cond (!decide (a0.2.2.2.1 = a1.2.2.2.1)) ((some false)) (cond (!decide (a0.2.2.2.2.1 = a1.2.2.2.2.1)) ((some false)) ((some true))))))))
def laws_eqRopeway.res (_ : Ropeway) (_ : Ropeway) (y : Bool) : AV := (.bl y)
def laws_eqRopeway.out (_ : Ropeway) (_ : Ropeway) (_ : Bool) : List (Option LB) := []
def laws_eqRopeway.S (ar : List AV) (h : List (Option LB)) (r : AV) (h1 : List (Option LB)) : Prop := ∃ a0 a1 y, laws_eqRopeway a0 a1 = some y ∧ leL ar [(.agg [(.v (.int .i64 a0.1)), (.tree ty_Slot a0.2.1), (.v (.int .i64 a0.2.2.1)), (.v (.int .i64 a0.2.2.2.1)), (.v (.int .i64 a0.2.2.2.2.1))]), (.agg [(.v (.int .i64 a1.1)), (.tree ty_Slot a1.2.1), (.v (.int .i64 a1.2.2.1)), (.v (.int .i64 a1.2.2.2.1)), (.v (.int .i64 a1.2.2.2.2.1))])] ∧ leH h [] ∧ r = laws_eqRopeway.res a0 a1 y ∧ h1 = laws_eqRopeway.out a0 a1 y
theorem laws_eqRopeway.call {ar : List AV} {h : List (Option LB)} {a0 : Ropeway} {a1 : Ropeway} {y : Bool} (H : laws_eqRopeway a0 a1 = some y) (h0 : leLk ar [(.agg [(.v (.int .i64 a0.1)), (.tree ty_Slot a0.2.1), (.v (.int .i64 a0.2.2.1)), (.v (.int .i64 a0.2.2.2.1)), (.v (.int .i64 a0.2.2.2.2.1))]), (.agg [(.v (.int .i64 a1.1)), (.tree ty_Slot a1.2.1), (.v (.int .i64 a1.2.2.1)), (.v (.int .i64 a1.2.2.2.1)), (.v (.int .i64 a1.2.2.2.2.1))])] (leHk h [])) : laws_eqRopeway.S ar h (laws_eqRopeway.res a0 a1 y) (laws_eqRopeway.out a0 a1 y) := ⟨a0, a1, y, H, (args_ok h0).1, (args_ok h0).2, rfl, rfl⟩
set_option maxHeartbeats 100000000 in
set_option maxRecDepth 100000 in
theorem laws_eqRopeway.spec (a0 : Ropeway) (a1 : Ropeway) (y : Bool) (H : laws_eqRopeway a0 a1 = some y) : Spec Try.prog 80 [(.agg [(.v (.int .i64 a0.1)), (.tree ty_Slot a0.2.1), (.v (.int .i64 a0.2.2.1)), (.v (.int .i64 a0.2.2.2.1)), (.v (.int .i64 a0.2.2.2.2.1))]), (.agg [(.v (.int .i64 a1.1)), (.tree ty_Slot a1.2.1), (.v (.int .i64 a1.2.2.1)), (.v (.int .i64 a1.2.2.2.1)), (.v (.int .i64 a1.2.2.2.2.1))])] [] (laws_eqRopeway.res a0 a1 y) (laws_eqRopeway.out a0 a1 y) := by
  refine spec_intro (G40_ok.at tok []) (ct := [(4, some [2, 3, 15]), (10, some [30])]) Try.func80 rfl (by kernel_rfl) (by kernel_rfl) rfl ?_
  repeat' first
    | ((with_reducible refine eqg ?_); exact rfl)
    | ((with_reducible refine KOb.mk ?_); kernel_rfl)
    | ((with_reducible intro h); (repeat (first | replace H := grd_k H | replace H := out_step H (by assumption))); first | replace H := cond_t h H | replace H := cond_f h H | exact absurd h (by decide) | skip)
    | ((with_reducible refine Ob.mk ?_); first | (with_reducible rfl) | (first | ((repeat (first | (with_reducible exact grd_p H) | (replace H := grd_k H) | (replace H := out_step H (by assumption)))); done) | rfl | ((repeat (first | exact grd_p H | replace H := grd_k H | replace H := out_step H (by assumption))); done) | ((repeat (first | exact grd_p H | (have hp := grd_p H; exact hp) | replace H := grd_k H | replace H := out_step H (by assumption) | (replace H := bind_some H; obtain ⟨_, _, H⟩ := H))); done) | (repeat (first | exact grd_p H | replace H := grd_k H | replace H := out_step H (by assumption)))))
    | (with_reducible exact True.intro)
    | constructor
    | ((conv => whnf); first
        | ((with_reducible refine Ob.mk ?_); first | (with_reducible rfl) | (first | ((repeat (first | (with_reducible exact grd_p H) | (replace H := grd_k H) | (replace H := out_step H (by assumption)))); done) | rfl | ((repeat (first | exact grd_p H | replace H := grd_k H | replace H := out_step H (by assumption))); done) | ((repeat (first | exact grd_p H | (have hp := grd_p H; exact hp) | replace H := grd_k H | replace H := out_step H (by assumption) | (replace H := bind_some H; obtain ⟨_, _, H⟩ := H))); done) | (repeat (first | exact grd_p H | replace H := grd_k H | replace H := out_step H (by assumption)))))
        | ((with_reducible refine CallW.mk ?_); (repeat (first | replace H := grd_k H | replace H := out_step H (by assumption))); replace H := bind_some H; obtain ⟨y, hy, H⟩ := H; first | ((with_reducible have hz : laws_eqSlotS _ _ = some y := hy); clear hz; refine Exists.intro _ (Exists.intro _ ⟨laws_eqSlotS.call hy ?_, rfl, rfl, ?_⟩)))
        | ((with_reducible refine fin_mk ?_); (repeat (first | replace H := grd_k H | replace H := out_step H (by assumption))); have H := Option.some.inj H; subst H))
def G41 : Env := G40.add 80 [] laws_eqRopeway.S
theorem G41_ok : EnvOk Try.prog G41 := G40_ok.add ent_80 fun ar h r h1 ⟨a0, a1, y, hy, e1, e2, e3, e4⟩ => by
  subst e3 e4; exact (laws_eqRopeway.spec a0 a1 y hy).le e1 e2
attribute [local irreducible] laws_eqRopeway

noncomputable def laws_markSlotS_loop1  (v4 : Int) (v5 : Int) (v6 : (List Slot)) : Option (Lp (Int × Int × (List Slot)) ((Int × (List Slot)))) :=
  (cond (decide (v5 < (v6.length : Int))) (grd (0 ≤ v5 ∧ v5 < (v6.length : Int)) (grd ((3 : Int) ≠ 0) (grd (0 ≤ v5 ∧ v5 < ((v6.set v5.toNat (v4, (v6.getD v5.toNat d_Slot).2.1, (v6.getD v5.toNat d_Slot).2.2.1, ())).length : Int)) (grd (0 ≤ v5 ∧ v5 < (((v6.set v5.toNat (v4, (v6.getD v5.toNat d_Slot).2.1, (v6.getD v5.toNat d_Slot).2.2.1, ())).set v5.toNat (((v6.set v5.toNat (v4, (v6.getD v5.toNat d_Slot).2.1, (v6.getD v5.toNat d_Slot).2.2.1, ())).getD v5.toNat d_Slot).1, (decide ((Int.tmod (w64 (v4 + (1 : Int))) (3 : Int)) = (0 : Int))), ((v6.set v5.toNat (v4, (v6.getD v5.toNat d_Slot).2.1, (v6.getD v5.toNat d_Slot).2.2.1, ())).getD v5.toNat d_Slot).2.2.1, ())).length : Int)) (some (.go ((w64 ((w64 ((w64 (v4 + (1 : Int))) + (1 : Int))) + (1 : Int))), (w64 (v5 + (1 : Int))), (((v6.set v5.toNat (v4, (v6.getD v5.toNat d_Slot).2.1, (v6.getD v5.toNat d_Slot).2.2.1, ())).set v5.toNat (((v6.set v5.toNat (v4, (v6.getD v5.toNat d_Slot).2.1, (v6.getD v5.toNat d_Slot).2.2.1, ())).getD v5.toNat d_Slot).1, (decide ((Int.tmod (w64 (v4 + (1 : Int))) (3 : Int)) = (0 : Int))), ((v6.set v5.toNat (v4, (v6.getD v5.toNat d_Slot).2.1, (v6.getD v5.toNat d_Slot).2.2.1, ())).getD v5.toNat d_Slot).2.2.1, ())).set v5.toNat ((((v6.set v5.toNat (v4, (v6.getD v5.toNat d_Slot).2.1, (v6.getD v5.toNat d_Slot).2.2.1, ())).set v5.toNat (((v6.set v5.toNat (v4, (v6.getD v5.toNat d_Slot).2.1, (v6.getD v5.toNat d_Slot).2.2.1, ())).getD v5.toNat d_Slot).1, (decide ((Int.tmod (w64 (v4 + (1 : Int))) (3 : Int)) = (0 : Int))), ((v6.set v5.toNat (v4, (v6.getD v5.toNat d_Slot).2.1, (v6.getD v5.toNat d_Slot).2.2.1, ())).getD v5.toNat d_Slot).2.2.1, ())).getD v5.toNat d_Slot).1, (((v6.set v5.toNat (v4, (v6.getD v5.toNat d_Slot).2.1, (v6.getD v5.toNat d_Slot).2.2.1, ())).set v5.toNat (((v6.set v5.toNat (v4, (v6.getD v5.toNat d_Slot).2.1, (v6.getD v5.toNat d_Slot).2.2.1, ())).getD v5.toNat d_Slot).1, (decide ((Int.tmod (w64 (v4 + (1 : Int))) (3 : Int)) = (0 : Int))), ((v6.set v5.toNat (v4, (v6.getD v5.toNat d_Slot).2.1, (v6.getD v5.toNat d_Slot).2.2.1, ())).getD v5.toNat d_Slot).2.2.1, ())).getD v5.toNat d_Slot).2.1, (w64 ((w64 (v4 + (1 : Int))) + (1 : Int))), ()))))))))) ((some (.out (v4, v6)))))
noncomputable def laws_markSlotS (a0 : (List Slot)) (a1 : Int) : Option (Int × (List Slot)) :=
  ((iter (fun s => laws_markSlotS_loop1 s.1 s.2.1 s.2.2) (a1, (0 : Int), a0)).bind (fun r7 => (some (r7.1, r7.2))))
def laws_markSlotS.res (_ : (List Slot)) (_ : Int) (y : Int × (List Slot)) : AV := (.v (.int .i64 y.1))
def laws_markSlotS.out (_ : (List Slot)) (_ : Int) (y : Int × (List Slot)) : List (Option LB) := [some (.arr 100 ty_Slot y.2)]
def laws_markSlotS.S (ar : List AV) (h : List (Option LB)) (r : AV) (h1 : List (Option LB)) : Prop := ∃ a0 a1 y, laws_markSlotS a0 a1 = some y ∧ leL ar [(.own 0), (.v (.int .i64 a1))] ∧ leH h [some (.arr 100 ty_Slot a0)] ∧ r = laws_markSlotS.res a0 a1 y ∧ h1 = laws_markSlotS.out a0 a1 y
theorem laws_markSlotS.call {ar : List AV} {h : List (Option LB)} {a0 : (List Slot)} {a1 : Int} {y : Int × (List Slot)} (H : laws_markSlotS a0 a1 = some y) (h0 : leLk ar [(.own 0), (.v (.int .i64 a1))] (leHk h [some (.arr 100 ty_Slot a0)])) : laws_markSlotS.S ar h (laws_markSlotS.res a0 a1 y) (laws_markSlotS.out a0 a1 y) := ⟨a0, a1, y, H, (args_ok h0).1, (args_ok h0).2, rfl, rfl⟩
set_option maxHeartbeats 100000000 in
set_option maxRecDepth 100000 in
theorem laws_markSlotS.spec (a0 : (List Slot)) (a1 : Int) (y : Int × (List Slot)) (H : laws_markSlotS a0 a1 = some y) : Spec Try.prog 157 [(.own 0), (.v (.int .i64 a1))] [some (.arr 100 ty_Slot a0)] (laws_markSlotS.res a0 a1 y) (laws_markSlotS.out a0 a1 y) := by
  refine spec_intro (G41_ok.at tok []) (ct := [(7, some [0, 1, 5])]) Try.func157 rfl (by kernel_rfl) (by kernel_rfl) rfl ?_
  repeat' first
    | ((with_reducible refine eqg ?_); exact rfl)
    | ((with_reducible refine KOb.mk ?_); kernel_rfl)
    | ((with_reducible intro h); (repeat (first | replace H := grd_k H | replace H := out_step H (by assumption))); first | replace H := cond_t h H | replace H := cond_f h H | exact absurd h (by decide) | skip)
    | ((with_reducible refine Ob.mk ?_); first | (with_reducible rfl) | (first | ((repeat (first | (with_reducible exact grd_p H) | (replace H := grd_k H) | (replace H := out_step H (by assumption)))); done) | rfl | ((repeat (first | exact grd_p H | replace H := grd_k H | replace H := out_step H (by assumption))); done) | ((repeat (first | exact grd_p H | (have hp := grd_p H; exact hp) | replace H := grd_k H | replace H := out_step H (by assumption) | (replace H := bind_some H; obtain ⟨_, _, H⟩ := H))); done) | (repeat (first | exact grd_p H | replace H := grd_k H | replace H := out_step H (by assumption)))))
    | (with_reducible exact True.intro)
    | constructor
    | ((conv => whnf); first
        | ((with_reducible refine Ob.mk ?_); first | (with_reducible rfl) | (first | ((repeat (first | (with_reducible exact grd_p H) | (replace H := grd_k H) | (replace H := out_step H (by assumption)))); done) | rfl | ((repeat (first | exact grd_p H | replace H := grd_k H | replace H := out_step H (by assumption))); done) | ((repeat (first | exact grd_p H | (have hp := grd_p H; exact hp) | replace H := grd_k H | replace H := out_step H (by assumption) | (replace H := bind_some H; obtain ⟨_, _, H⟩ := H))); done) | (repeat (first | exact grd_p H | replace H := grd_k H | replace H := out_step H (by assumption)))))
        | ((repeat (first | replace H := grd_k H | replace H := out_step H (by assumption))); refine loop_iter (G41_ok.at tok []) (ct := [(7, some [0, 1, 5])]) (F := (fun s1 : Int × Int × (List Slot) => ⟨sl [(0, (.own 0)), (1, (.v (.int .i64 s1.1))), (5, (.v (.int .i64 s1.2.1)))], [some (.arr 100 ty_Slot s1.2.2)]⟩)) (step := (fun s : Int × Int × (List Slot) => laws_markSlotS_loop1 s.1 s.2.1 s.2.2)) _ H (by kernel_rfl) (sub_auto ?_) ?_; rotate_left; (intro s1 r v hr H); rotate_right)
        | ((repeat (first | replace H := grd_k H | replace H := out_step H (by assumption))); refine again_step H (by assumption) (sub_auto ?_))
        | ((with_reducible refine fin_mk ?_); (repeat (first | replace H := grd_k H | replace H := out_step H (by assumption))); have H := Option.some.inj H; subst H))
def G42 : Env := G41.add 157 [true] laws_markSlotS.S
theorem G42_ok : EnvOk Try.prog G42 := G41_ok.add ent_157 fun ar h r h1 ⟨a0, a1, y, hy, e1, e2, e3, e4⟩ => by
  subst e3 e4; exact (laws_markSlotS.spec a0 a1 y hy).le e1 e2
attribute [local irreducible] laws_markSlotS

noncomputable def laws_markRopeway (a0 : Ropeway) (a1 : Int) : Option (Int × (List Slot)) :=
  ((laws_markSlotS a0.2.1 a1).bind fun y1 => (some (y1.1, y1.2)))
def laws_markRopeway.res (_ : Ropeway) (_ : Int) (y : Int × (List Slot)) : AV := (.v (.int .i64 y.1))
def laws_markRopeway.out (_ : Ropeway) (_ : Int) (y : Int × (List Slot)) : List (Option LB) := [some (.arr 100 ty_Slot y.2)]
def laws_markRopeway.S (ar : List AV) (h : List (Option LB)) (r : AV) (h1 : List (Option LB)) : Prop := ∃ a0 a1 y, laws_markRopeway a0 a1 = some y ∧ leL ar [(.agg [(.v (.int .i64 a0.1)), (.own 0), (.v (.int .i64 a0.2.2.1)), (.v (.int .i64 a0.2.2.2.1)), (.v (.int .i64 a0.2.2.2.2.1))]), (.v (.int .i64 a1))] ∧ leH h [some (.arr 100 ty_Slot a0.2.1)] ∧ r = laws_markRopeway.res a0 a1 y ∧ h1 = laws_markRopeway.out a0 a1 y
theorem laws_markRopeway.call {ar : List AV} {h : List (Option LB)} {a0 : Ropeway} {a1 : Int} {y : Int × (List Slot)} (H : laws_markRopeway a0 a1 = some y) (h0 : leLk ar [(.agg [(.v (.int .i64 a0.1)), (.own 0), (.v (.int .i64 a0.2.2.1)), (.v (.int .i64 a0.2.2.2.1)), (.v (.int .i64 a0.2.2.2.2.1))]), (.v (.int .i64 a1))] (leHk h [some (.arr 100 ty_Slot a0.2.1)])) : laws_markRopeway.S ar h (laws_markRopeway.res a0 a1 y) (laws_markRopeway.out a0 a1 y) := ⟨a0, a1, y, H, (args_ok h0).1, (args_ok h0).2, rfl, rfl⟩
set_option maxHeartbeats 100000000 in
set_option maxRecDepth 100000 in
theorem laws_markRopeway.spec (a0 : Ropeway) (a1 : Int) (y : Int × (List Slot)) (H : laws_markRopeway a0 a1 = some y) : Spec Try.prog 81 [(.agg [(.v (.int .i64 a0.1)), (.own 0), (.v (.int .i64 a0.2.2.1)), (.v (.int .i64 a0.2.2.2.1)), (.v (.int .i64 a0.2.2.2.2.1))]), (.v (.int .i64 a1))] [some (.arr 100 ty_Slot a0.2.1)] (laws_markRopeway.res a0 a1 y) (laws_markRopeway.out a0 a1 y) := by
  refine spec_intro (G42_ok.at tok []) (ct := []) Try.func81 rfl (by kernel_rfl) (by kernel_rfl) rfl ?_
  repeat' first
    | ((with_reducible refine eqg ?_); exact rfl)
    | ((with_reducible refine KOb.mk ?_); kernel_rfl)
    | ((with_reducible intro h); (repeat (first | replace H := grd_k H | replace H := out_step H (by assumption))); first | replace H := cond_t h H | replace H := cond_f h H | exact absurd h (by decide) | skip)
    | ((with_reducible refine Ob.mk ?_); first | (with_reducible rfl) | (first | ((repeat (first | (with_reducible exact grd_p H) | (replace H := grd_k H) | (replace H := out_step H (by assumption)))); done) | rfl | ((repeat (first | exact grd_p H | replace H := grd_k H | replace H := out_step H (by assumption))); done) | ((repeat (first | exact grd_p H | (have hp := grd_p H; exact hp) | replace H := grd_k H | replace H := out_step H (by assumption) | (replace H := bind_some H; obtain ⟨_, _, H⟩ := H))); done) | (repeat (first | exact grd_p H | replace H := grd_k H | replace H := out_step H (by assumption)))))
    | (with_reducible exact True.intro)
    | constructor
    | ((conv => whnf); first
        | ((with_reducible refine Ob.mk ?_); first | (with_reducible rfl) | (first | ((repeat (first | (with_reducible exact grd_p H) | (replace H := grd_k H) | (replace H := out_step H (by assumption)))); done) | rfl | ((repeat (first | exact grd_p H | replace H := grd_k H | replace H := out_step H (by assumption))); done) | ((repeat (first | exact grd_p H | (have hp := grd_p H; exact hp) | replace H := grd_k H | replace H := out_step H (by assumption) | (replace H := bind_some H; obtain ⟨_, _, H⟩ := H))); done) | (repeat (first | exact grd_p H | replace H := grd_k H | replace H := out_step H (by assumption)))))
        | ((with_reducible refine CallW.mk ?_); (repeat (first | replace H := grd_k H | replace H := out_step H (by assumption))); replace H := bind_some H; obtain ⟨y, hy, H⟩ := H; first | ((with_reducible have hz : laws_markSlotS _ _ = some y := hy); clear hz; refine Exists.intro _ (Exists.intro _ ⟨laws_markSlotS.call hy ?_, rfl, rfl, ?_⟩)))
        | ((with_reducible refine fin_mk ?_); (repeat (first | replace H := grd_k H | replace H := out_step H (by assumption))); have H := Option.some.inj H; subst H))
def G43 : Env := G42.add 81 [true] laws_markRopeway.S
theorem G43_ok : EnvOk Try.prog G43 := G42_ok.add ent_81 fun ar h r h1 ⟨a0, a1, y, hy, e1, e2, e3, e4⟩ => by
  subst e3 e4; exact (laws_markRopeway.spec a0 a1 y hy).le e1 e2
attribute [local irreducible] laws_markRopeway

noncomputable def laws_heldSlotS_loop1 (a0 : (List Slot)) (v3 : Int) (v4 : Int) : Option (Lp (Int × Int) ((Unit) ⊕ (Int))) :=
  (cond (decide (v4 < (a0.length : Int))) (grd (0 ≤ v4 ∧ v4 < (a0.length : Int)) (cond (!decide (((a0.getD v4.toNat d_Slot).1) = v3)) ((some (.out (Sum.inl ())))) (grd (0 ≤ v4 ∧ v4 < (a0.length : Int)) (grd ((3 : Int) ≠ 0) (cond (!(((a0.getD v4.toNat d_Slot).2.1) == (decide ((Int.tmod (w64 (v3 + (1 : Int))) (3 : Int)) = (0 : Int))))) ((some (.out (Sum.inl ())))) (grd (0 ≤ v4 ∧ v4 < (a0.length : Int)) (cond (!decide (((a0.getD v4.toNat d_Slot).2.2.1) = (w64 ((w64 (v3 + (1 : Int))) + (1 : Int))))) ((some (.out (Sum.inl ())))) (some (.go ((w64 ((w64 ((w64 (v3 + (1 : Int))) + (1 : Int))) + (1 : Int))), (w64 (v4 + (1 : Int))))))))))))) ((some (.out (Sum.inr v3)))))
noncomputable def laws_heldSlotS (a0 : (List Slot)) (a1 : Int) : Option (Int) :=
  ((iter (fun s => laws_heldSlotS_loop1 a0 s.1 s.2) (a1, (0 : Int))).bind (Sum.elim (fun _ => (some ((-1) : Int))) (fun r7 => (some r7))))
def laws_heldSlotS.res (_ : (List Slot)) (_ : Int) (y : Int) : AV := (.v (.int .i64 y))
def laws_heldSlotS.out (_ : (List Slot)) (_ : Int) (_ : Int) : List (Option LB) := []
def laws_heldSlotS.S (ar : List AV) (h : List (Option LB)) (r : AV) (h1 : List (Option LB)) : Prop := ∃ a0 a1 y, laws_heldSlotS a0 a1 = some y ∧ leL ar [(.tree ty_Slot a0), (.v (.int .i64 a1))] ∧ leH h [] ∧ r = laws_heldSlotS.res a0 a1 y ∧ h1 = laws_heldSlotS.out a0 a1 y
theorem laws_heldSlotS.call {ar : List AV} {h : List (Option LB)} {a0 : (List Slot)} {a1 : Int} {y : Int} (H : laws_heldSlotS a0 a1 = some y) (h0 : leLk ar [(.tree ty_Slot a0), (.v (.int .i64 a1))] (leHk h [])) : laws_heldSlotS.S ar h (laws_heldSlotS.res a0 a1 y) (laws_heldSlotS.out a0 a1 y) := ⟨a0, a1, y, H, (args_ok h0).1, (args_ok h0).2, rfl, rfl⟩
set_option maxHeartbeats 100000000 in
set_option maxRecDepth 100000 in
theorem laws_heldSlotS.spec (a0 : (List Slot)) (a1 : Int) (y : Int) (H : laws_heldSlotS a0 a1 = some y) : Spec Try.prog 158 [(.tree ty_Slot a0), (.v (.int .i64 a1))] [] (laws_heldSlotS.res a0 a1 y) (laws_heldSlotS.out a0 a1 y) := by
  refine spec_intro (G43_ok.at tok []) (ct := [(7, some [0, 1, 5]), (11, some [0, 1, 5, 38])]) Try.func158 rfl (by kernel_rfl) (by kernel_rfl) rfl ?_
  repeat' first
    | ((with_reducible refine eqg ?_); exact rfl)
    | ((with_reducible refine KOb.mk ?_); kernel_rfl)
    | ((with_reducible intro h); (repeat (first | replace H := grd_k H | replace H := out_step H (by assumption))); first | replace H := cond_t h H | replace H := cond_f h H | exact absurd h (by decide) | skip)
    | ((with_reducible refine Ob.mk ?_); first | (with_reducible rfl) | (first | ((repeat (first | (with_reducible exact grd_p H) | (replace H := grd_k H) | (replace H := out_step H (by assumption)))); done) | rfl | ((repeat (first | exact grd_p H | replace H := grd_k H | replace H := out_step H (by assumption))); done) | ((repeat (first | exact grd_p H | (have hp := grd_p H; exact hp) | replace H := grd_k H | replace H := out_step H (by assumption) | (replace H := bind_some H; obtain ⟨_, _, H⟩ := H))); done) | (repeat (first | exact grd_p H | replace H := grd_k H | replace H := out_step H (by assumption)))))
    | (with_reducible exact True.intro)
    | constructor
    | ((conv => whnf); first
        | ((with_reducible refine Ob.mk ?_); first | (with_reducible rfl) | (first | ((repeat (first | (with_reducible exact grd_p H) | (replace H := grd_k H) | (replace H := out_step H (by assumption)))); done) | rfl | ((repeat (first | exact grd_p H | replace H := grd_k H | replace H := out_step H (by assumption))); done) | ((repeat (first | exact grd_p H | (have hp := grd_p H; exact hp) | replace H := grd_k H | replace H := out_step H (by assumption) | (replace H := bind_some H; obtain ⟨_, _, H⟩ := H))); done) | (repeat (first | exact grd_p H | replace H := grd_k H | replace H := out_step H (by assumption)))))
        | ((repeat (first | replace H := grd_k H | replace H := out_step H (by assumption))); refine loop_iter (G43_ok.at tok []) (ct := [(7, some [0, 1, 5]), (11, some [0, 1, 5, 38])]) (F := (fun s1 : Int × Int => ⟨sl [(0, (.tree ty_Slot a0)), (1, (.v (.int .i64 s1.1))), (5, (.v (.int .i64 s1.2)))], []⟩)) (step := (fun s : Int × Int => laws_heldSlotS_loop1 _ s.1 s.2)) _ H (by kernel_rfl) (sub_auto ?_) ?_; rotate_left; (intro s1 r v hr H); rotate_right)
        | ((repeat (first | replace H := grd_k H | replace H := out_step H (by assumption))); refine again_step H (by assumption) (sub_auto ?_))
        | ((with_reducible refine fin_mk ?_); (repeat (first | replace H := grd_k H | replace H := out_step H (by assumption))); have H := Option.some.inj H; subst H))
def G44 : Env := G43.add 158 [] laws_heldSlotS.S
theorem G44_ok : EnvOk Try.prog G44 := G43_ok.add ent_158 fun ar h r h1 ⟨a0, a1, y, hy, e1, e2, e3, e4⟩ => by
  subst e3 e4; exact (laws_heldSlotS.spec a0 a1 y hy).le e1 e2
attribute [local irreducible] laws_heldSlotS

end Go.Proofs.Ytmknleaomfpmmaa
