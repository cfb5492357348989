/-
  Contracts, printed by a program.
-/
import Derived.Test.YtmknleaomfpmmaaC2112
namespace Go.Proofs.Ytmknleaomfpmmaa
open Go.RowKit
attribute [local irreducible] Ob loopwp Sub Spec Fin Again CallW CutC KOb iter joinx outm

attribute [local irreducible] laws_szSlotS laws_szRopeway laws_toSlot laws_toSlotS laws_toRopeway laws_toRopeStep spec_l1In spec_l25Slot spec_l25Good spec_l25Step spec_l25Own spec_l25Open spec_l25Find spec_l25Rope spec_l25Station spec_l25People spec_l25Make spec_StepRopeway impl_within impl_Ropeway_isStation impl_IsRopeway_1_i1 slices_IndexFunc___impl_Slot_impl_Slot__i1 slices_ContainsFunc___impl_Slot_impl_Slot__i1 impl_IsRopeway slices_Clone___impl_Slot_impl_Slot_ impl_copyRopeway impl_Ropeway_act_1 slices_Grow___impl_Slot_impl_Slot__i1 slices_Concat___impl_Slot_impl_Slot_ impl_Ropeway_cabinAt_1_i1 slices_IndexFunc___impl_Slot_impl_Slot__i2 impl_Ropeway_cabinAt impl_Ropeway_stationOf slices_IndexFunc___impl_Slot_impl_Slot__i3 slices_ContainsFunc___impl_Slot_impl_Slot__i2 impl_Ropeway_act impl_Ropeway_step impl_StepRopeway laws_eqSlot laws_eqSlotS laws_eqRopeway laws_markSlotS laws_markRopeway laws_heldSlotS laws_heldRopeway laws_markSlotS_i1 laws_markRopeway_i1 laws_FnExactStepRopeway

noncomputable def laws_szRopeStepS (a0 : (List RopeStep)) (a1 : Int) : Option (Int) :=
  (cond (decide ((w64 (a1 - (a0.length : Int))) < (0 : Int))) ((some ((-1) : Int))) ((some (w64 (a1 - (a0.length : Int))))))
def laws_szRopeStepS.res (_ : (List RopeStep)) (_ : Int) (y : Int) : AV := (.v (.int .i64 y))
def laws_szRopeStepS.out (_ : (List RopeStep)) (_ : Int) (_ : Int) : List (Option LB) := []
def laws_szRopeStepS.S (ar : List AV) (h : List (Option LB)) (r : AV) (h1 : List (Option LB)) : Prop := ∃ a0 a1 y, laws_szRopeStepS a0 a1 = some y ∧ leL ar [(.tree ty_RopeStep a0), (.v (.int .i64 a1))] ∧ leH h [] ∧ r = laws_szRopeStepS.res a0 a1 y ∧ h1 = laws_szRopeStepS.out a0 a1 y
theorem laws_szRopeStepS.call {ar : List AV} {h : List (Option LB)} {a0 : (List RopeStep)} {a1 : Int} {y : Int} (H : laws_szRopeStepS a0 a1 = some y) (h0 : leLk ar [(.tree ty_RopeStep a0), (.v (.int .i64 a1))] (leHk h [])) : laws_szRopeStepS.S ar h (laws_szRopeStepS.res a0 a1 y) (laws_szRopeStepS.out a0 a1 y) := ⟨a0, a1, y, H, (args_ok h0).1, (args_ok h0).2, rfl, rfl⟩
set_option maxHeartbeats 100000000 in
set_option maxRecDepth 100000 in
theorem laws_szRopeStepS.spec (a0 : (List RopeStep)) (a1 : Int) (y : Int) (H : laws_szRopeStepS a0 a1 = some y) : Spec Try.prog 83 [(.tree ty_RopeStep a0), (.v (.int .i64 a1))] [] (laws_szRopeStepS.res a0 a1 y) (laws_szRopeStepS.out a0 a1 y) := by
  refine spec_intro (G48_ok.at tok []) (ct := []) Try.func83 rfl (by kernel_rfl) (by kernel_rfl) rfl ?_
  repeat' first
    | ((with_reducible refine eqg ?_); exact rfl)
    | ((with_reducible refine KOb.mk ?_); kernel_rfl)
    | ((with_reducible intro h); (repeat (first | replace H := grd_k H | replace H := out_step H (by assumption))); first | replace H := cond_t h H | replace H := cond_f h H | exact absurd h (by decide) | skip)
    | ((with_reducible refine Ob.mk ?_); first | (with_reducible rfl) | (first | ((repeat (first | (with_reducible exact grd_p H) | (replace H := grd_k H) | (replace H := out_step H (by assumption)))); done) | rfl | ((repeat (first | exact grd_p H | replace H := grd_k H | replace H := out_step H (by assumption))); done) | ((repeat (first | exact grd_p H | (have hp := grd_p H; exact hp) | replace H := grd_k H | replace H := out_step H (by assumption) | (replace H := bind_some H; obtain ⟨_, _, H⟩ := H))); done) | (repeat (first | exact grd_p H | replace H := grd_k H | replace H := out_step H (by assumption)))))
    | (with_reducible exact True.intro)
    | constructor
    | ((conv => whnf); first
        | ((with_reducible refine Ob.mk ?_); first | (with_reducible rfl) | (first | ((repeat (first | (with_reducible exact grd_p H) | (replace H := grd_k H) | (replace H := out_step H (by assumption)))); done) | rfl | ((repeat (first | exact grd_p H | replace H := grd_k H | replace H := out_step H (by assumption))); done) | ((repeat (first | exact grd_p H | (have hp := grd_p H; exact hp) | replace H := grd_k H | replace H := out_step H (by assumption) | (replace H := bind_some H; obtain ⟨_, _, H⟩ := H))); done) | (repeat (first | exact grd_p H | replace H := grd_k H | replace H := out_step H (by assumption)))))
        | ((with_reducible refine fin_mk ?_); (repeat (first | replace H := grd_k H | replace H := out_step H (by assumption))); have H := Option.some.inj H; subst H))
def G49 : Env := G48.add 83 [] laws_szRopeStepS.S
theorem G49_ok : EnvOk Try.prog G49 := G48_ok.add ent_83 fun ar h r h1 ⟨a0, a1, y, hy, e1, e2, e3, e4⟩ => by
  subst e3 e4; exact (laws_szRopeStepS.spec a0 a1 y hy).le e1 e2
attribute [local irreducible] laws_szRopeStepS

noncomputable def laws_toRopeStepS_loop1 (a0 : (List RopeStep)) (v5 : Int) (v6 : (List RopeStep)) : Option (Lp (Int × (List RopeStep)) (((List RopeStep)))) :=
  (cond (decide (v5 < (a0.length : Int))) (grd (0 ≤ v5 ∧ v5 < (a0.length : Int)) ((laws_toRopeStep ((a0.getD v5.toNat d_RopeStep).1, (a0.getD v5.toNat d_RopeStep).2.1, ())).bind fun y7 => (grd (0 ≤ v5 ∧ v5 < (v6.length : Int)) (some (.go ((w64 (v5 + (1 : Int))), (v6.set v5.toNat (y7.1, y7.2.1, ())))))))) ((some (.out v6))))
noncomputable def laws_toRopeStepS (a0 : (List RopeStep)) : Option ((List RopeStep)) :=
  (grd (0 ≤ (a0.length : Int) ∧ (a0.length : Int) ≤ (a0.length : Int) ∧ (16 : Int) * (a0.length : Int) ≤ 140737488355328 ∧ (a0.length : Int) ≤ 140737488355328) ((iter (fun s => laws_toRopeStepS_loop1 a0 s.1 s.2) ((0 : Int), (List.replicate (a0.length : Int).toNat ((0 : Int), (0 : Int), ())))).bind (fun r8 => (some r8))))
def laws_toRopeStepS.res (_ : (List RopeStep)) (_ : (List RopeStep)) : AV := (.own 0)
def laws_toRopeStepS.out (_ : (List RopeStep)) (y : (List RopeStep)) : List (Option LB) := [some (.arr 89 ty_RopeStep y)]
def laws_toRopeStepS.S (ar : List AV) (h : List (Option LB)) (r : AV) (h1 : List (Option LB)) : Prop := ∃ a0 y, laws_toRopeStepS a0 = some y ∧ leL ar [(.tree ty_RopeStep a0)] ∧ leH h [] ∧ r = laws_toRopeStepS.res a0 y ∧ h1 = laws_toRopeStepS.out a0 y
theorem laws_toRopeStepS.call {ar : List AV} {h : List (Option LB)} {a0 : (List RopeStep)} {y : (List RopeStep)} (H : laws_toRopeStepS a0 = some y) (h0 : leLk ar [(.tree ty_RopeStep a0)] (leHk h [])) : laws_toRopeStepS.S ar h (laws_toRopeStepS.res a0 y) (laws_toRopeStepS.out a0 y) := ⟨a0, y, H, (args_ok h0).1, (args_ok h0).2, rfl, rfl⟩
set_option maxHeartbeats 100000000 in
set_option maxRecDepth 100000 in
theorem laws_toRopeStepS.spec (a0 : (List RopeStep)) (y : (List RopeStep)) (H : laws_toRopeStepS a0 = some y) : Spec Try.prog 84 [(.tree ty_RopeStep a0)] [] (laws_toRopeStepS.res a0 y) (laws_toRopeStepS.out a0 y) := by
  refine spec_intro (G49_ok.at tok []) (ct := []) Try.func84 rfl (by kernel_rfl) (by kernel_rfl) rfl ?_
  repeat' first
    | ((with_reducible refine eqg ?_); exact rfl)
    | ((with_reducible refine KOb.mk ?_); kernel_rfl)
    | ((with_reducible intro h); (repeat (first | replace H := grd_k H | replace H := out_step H (by assumption))); first | replace H := cond_t h H | replace H := cond_f h H | exact absurd h (by decide) | skip)
    | ((with_reducible refine Ob.mk ?_); first | (with_reducible rfl) | (first | ((repeat (first | (with_reducible exact grd_p H) | (replace H := grd_k H) | (replace H := out_step H (by assumption)))); done) | rfl | ((repeat (first | exact grd_p H | replace H := grd_k H | replace H := out_step H (by assumption))); done) | ((repeat (first | exact grd_p H | (have hp := grd_p H; exact hp) | replace H := grd_k H | replace H := out_step H (by assumption) | (replace H := bind_some H; obtain ⟨_, _, H⟩ := H))); done) | (repeat (first | exact grd_p H | replace H := grd_k H | replace H := out_step H (by assumption)))))
    | (with_reducible exact True.intro)
    | constructor
    | ((conv => whnf); first
        | ((with_reducible refine Ob.mk ?_); first | (with_reducible rfl) | (first | ((repeat (first | (with_reducible exact grd_p H) | (replace H := grd_k H) | (replace H := out_step H (by assumption)))); done) | rfl | ((repeat (first | exact grd_p H | replace H := grd_k H | replace H := out_step H (by assumption))); done) | ((repeat (first | exact grd_p H | (have hp := grd_p H; exact hp) | replace H := grd_k H | replace H := out_step H (by assumption) | (replace H := bind_some H; obtain ⟨_, _, H⟩ := H))); done) | (repeat (first | exact grd_p H | replace H := grd_k H | replace H := out_step H (by assumption)))))
        | ((with_reducible refine CallW.mk ?_); (repeat (first | replace H := grd_k H | replace H := out_step H (by assumption))); replace H := bind_some H; obtain ⟨y, hy, H⟩ := H; first | ((with_reducible have hz : laws_toRopeStep _ = some y := hy); clear hz; refine Exists.intro _ (Exists.intro _ ⟨laws_toRopeStep.call hy ?_, rfl, rfl, ?_⟩)))
        | ((repeat (first | replace H := grd_k H | replace H := out_step H (by assumption))); refine loop_iter (G49_ok.at tok []) (ct := []) (F := (fun s1 : Int × (List RopeStep) => ⟨sl [(0, (.tree ty_RopeStep a0)), (3, (.own 0)), (4, (.v (.int .i64 s1.1)))], [some (.arr 89 ty_RopeStep s1.2)]⟩)) (step := (fun s : Int × (List RopeStep) => laws_toRopeStepS_loop1 _ s.1 s.2)) _ H (by kernel_rfl) (sub_auto ?_) ?_; rotate_left; (intro s1 r v hr H); rotate_right)
        | ((repeat (first | replace H := grd_k H | replace H := out_step H (by assumption))); refine again_step H (by assumption) (sub_auto ?_))
        | ((with_reducible refine fin_mk ?_); (repeat (first | replace H := grd_k H | replace H := out_step H (by assumption))); have H := Option.some.inj H; subst H))
def G50 : Env := G49.add 84 [] laws_toRopeStepS.S
theorem G50_ok : EnvOk Try.prog G50 := G49_ok.add ent_84 fun ar h r h1 ⟨a0, y, hy, e1, e2, e3, e4⟩ => by
  subst e3 e4; exact (laws_toRopeStepS.spec a0 y hy).le e1 e2
attribute [local irreducible] laws_toRopeStepS

noncomputable def spec_RunRopeway_loop1 (a1 : (List RopeStep)) (v27 : Int) (v28 : Int) (v29 : Int) (v30 : Int) (v31 : Int) (v32 : Int) (v33 : (List Slot)) : Option (Lp (Int × Int × Int × Int × Int × Int × (List Slot)) ((Int × Int × Int × Int × Int × (List Slot)))) :=
  (cond (decide (v28 < (a1.length : Int))) (grd (0 ≤ v28 ∧ v28 < (a1.length : Int)) ((spec_l25Step ((a1.getD v28.toNat d_RopeStep).1, (a1.getD v28.toNat d_RopeStep).2.1, ())).bind fun y34 => (cond (!y34) (some (.go (v27, (w64 (v28 + (1 : Int))), v29, v30, v31, v32, v33))) (grd (0 ≤ v28 ∧ v28 < (a1.length : Int)) ((spec_l25Make (v29, v33, v30, v31, v32, ()) ((a1.getD v28.toNat d_RopeStep).1, (a1.getD v28.toNat d_RopeStep).2.1, ())).bind fun y35 => (cond y35.2 (some (.go ((w64 (v27 + (1 : Int))), (w64 (v28 + (1 : Int))), y35.1.1, y35.1.2.2.1, y35.1.2.2.2.1, y35.1.2.2.2.2.1, y35.1.2.1))) (some (.go (v27, (w64 (v28 + (1 : Int))), v29, v30, v31, v32, v33))))))))) ((some (.out (v27, v29, v30, v31, v32, v33)))))
noncomputable def spec_RunRopeway (a0 : Ropeway) (a1 : (List RopeStep)) : Option ((Ropeway × Int) ⊕ (Ropeway × Int)) :=
  ((spec_l25Good (a0.1, a0.2.1, a0.2.2.1, a0.2.2.2.1, a0.2.2.2.2.1, ())).bind fun y1 => (cond (!y1) ((some (Sum.inl (((0 : Int), [], (0 : Int), (0 : Int), (0 : Int), ()), (0 : Int))))) (cond (decide ((40 : Int) < (a1.length : Int))) ((some (Sum.inl (((0 : Int), [], (0 : Int), (0 : Int), (0 : Int), ()), (0 : Int))))) ((spec_l25Own (a0.1, a0.2.1, a0.2.2.1, a0.2.2.2.1, a0.2.2.2.2.1, ())).bind fun y2 => ((iter (fun s => spec_RunRopeway_loop1 a1 s.1 s.2.1 s.2.2.1 s.2.2.2.1 s.2.2.2.2.1 s.2.2.2.2.2.1 s.2.2.2.2.2.2) ((0 : Int), (0 : Int), y2.1, y2.2.2.1, y2.2.2.2.1, y2.2.2.2.2.1, y2.2.1)).bind (fun r36 => (some (Sum.inr ((r36.2.1, r36.2.2.2.2.2, r36.2.2.1, r36.2.2.2.1, r36.2.2.2.2.1, ()), r36.1)))))))))
def spec_RunRopeway.res (_ : Ropeway) (_ : (List RopeStep)) (y : (Ropeway × Int) ⊕ (Ropeway × Int)) : AV := match y with
  | (.inl y) => (.tup [(.agg [(.v (.int .i64 y.1.1)), (.v (.slice none 0 0)), (.v (.int .i64 y.1.2.2.1)), (.v (.int .i64 y.1.2.2.2.1)), (.v (.int .i64 y.1.2.2.2.2.1))]), (.v (.int .i64 y.2)), (.v (.bool false))])
  | (.inr y) => (.tup [(.agg [(.v (.int .i64 y.1.1)), (.own 0), (.v (.int .i64 y.1.2.2.1)), (.v (.int .i64 y.1.2.2.2.1)), (.v (.int .i64 y.1.2.2.2.2.1))]), (.v (.int .i64 y.2)), (.v (.bool true))])
def spec_RunRopeway.out (_ : Ropeway) (_ : (List RopeStep)) (y : (Ropeway × Int) ⊕ (Ropeway × Int)) : List (Option LB) := match y with
  | (.inl y) => []
  | (.inr y) => [some (.arr 100 ty_Slot y.1.2.1)]
def spec_RunRopeway.S (ar : List AV) (h : List (Option LB)) (r : AV) (h1 : List (Option LB)) : Prop := ∃ a0 a1 y, spec_RunRopeway a0 a1 = some y ∧ leL ar [(.agg [(.v (.int .i64 a0.1)), (.tree ty_Slot a0.2.1), (.v (.int .i64 a0.2.2.1)), (.v (.int .i64 a0.2.2.2.1)), (.v (.int .i64 a0.2.2.2.2.1))]), (.tree ty_RopeStep a1)] ∧ leH h [] ∧ r = spec_RunRopeway.res a0 a1 y ∧ h1 = spec_RunRopeway.out a0 a1 y
theorem spec_RunRopeway.call {ar : List AV} {h : List (Option LB)} {a0 : Ropeway} {a1 : (List RopeStep)} {y : (Ropeway × Int) ⊕ (Ropeway × Int)} (H : spec_RunRopeway a0 a1 = some y) (h0 : leLk ar [(.agg [(.v (.int .i64 a0.1)), (.tree ty_Slot a0.2.1), (.v (.int .i64 a0.2.2.1)), (.v (.int .i64 a0.2.2.2.1)), (.v (.int .i64 a0.2.2.2.2.1))]), (.tree ty_RopeStep a1)] (leHk h [])) : spec_RunRopeway.S ar h (spec_RunRopeway.res a0 a1 y) (spec_RunRopeway.out a0 a1 y) := ⟨a0, a1, y, H, (args_ok h0).1, (args_ok h0).2, rfl, rfl⟩
set_option maxHeartbeats 100000000 in
set_option maxRecDepth 100000 in
theorem spec_RunRopeway.spec (a0 : Ropeway) (a1 : (List RopeStep)) (y : (Ropeway × Int) ⊕ (Ropeway × Int)) (H : spec_RunRopeway a0 a1 = some y) : Spec Try.prog 73 [(.agg [(.v (.int .i64 a0.1)), (.tree ty_Slot a0.2.1), (.v (.int .i64 a0.2.2.1)), (.v (.int .i64 a0.2.2.2.1)), (.v (.int .i64 a0.2.2.2.2.1))]), (.tree ty_RopeStep a1)] [] (spec_RunRopeway.res a0 a1 y) (spec_RunRopeway.out a0 a1 y) := by
  have hlen : Nat.ble ([] : List (Option LB)).length (spec_RunRopeway.out a0 a1 y).length = true := by
    rcases y with y | y <;> rfl
  refine spec_intro (G50_ok.at tok []) (ct := [(3, some [1, 2, 4]), (9, some [1, 4, 7, 8, 9, 10, 11])]) Try.func73 rfl (by kernel_rfl) (by kernel_rfl) hlen ?_
  repeat' first
    | ((with_reducible refine eqg ?_); exact rfl)
    | ((with_reducible refine KOb.mk ?_); kernel_rfl)
    | ((with_reducible intro h); (repeat (first | replace H := grd_k H | replace H := out_step H (by assumption))); first | replace H := cond_t h H | replace H := cond_f h H | exact absurd h (by decide) | skip)
    | ((with_reducible refine Ob.mk ?_); first | (with_reducible rfl) | (first | ((repeat (first | (with_reducible exact grd_p H) | (replace H := grd_k H) | (replace H := out_step H (by assumption)))); done) | rfl | ((repeat (first | exact grd_p H | replace H := grd_k H | replace H := out_step H (by assumption))); done) | ((repeat (first | exact grd_p H | (have hp := grd_p H; exact hp) | replace H := grd_k H | replace H := out_step H (by assumption) | (replace H := bind_some H; obtain ⟨_, _, H⟩ := H))); done) | (repeat (first | exact grd_p H | replace H := grd_k H | replace H := out_step H (by assumption)))))
    | (with_reducible exact True.intro)
    | constructor
    | ((conv => whnf); first
        | ((with_reducible refine Ob.mk ?_); first | (with_reducible rfl) | (first | ((repeat (first | (with_reducible exact grd_p H) | (replace H := grd_k H) | (replace H := out_step H (by assumption)))); done) | rfl | ((repeat (first | exact grd_p H | replace H := grd_k H | replace H := out_step H (by assumption))); done) | ((repeat (first | exact grd_p H | (have hp := grd_p H; exact hp) | replace H := grd_k H | replace H := out_step H (by assumption) | (replace H := bind_some H; obtain ⟨_, _, H⟩ := H))); done) | (repeat (first | exact grd_p H | replace H := grd_k H | replace H := out_step H (by assumption)))))
        | ((with_reducible refine CallW.mk ?_); (repeat (first | replace H := grd_k H | replace H := out_step H (by assumption))); replace H := bind_some H; obtain ⟨y, hy, H⟩ := H; first | ((with_reducible have hz : spec_l25Good _ = some y := hy); clear hz; refine Exists.intro _ (Exists.intro _ ⟨spec_l25Good.call hy ?_, rfl, rfl, ?_⟩)) | ((with_reducible have hz : spec_l25Own _ = some y := hy); clear hz; refine Exists.intro _ (Exists.intro _ ⟨spec_l25Own.call hy ?_, rfl, rfl, ?_⟩)) | ((with_reducible have hz : spec_l25Step _ = some y := hy); clear hz; refine Exists.intro _ (Exists.intro _ ⟨spec_l25Step.call hy ?_, rfl, rfl, ?_⟩)) | ((with_reducible have hz : spec_l25Make _ _ = some y := hy); clear hz; refine Exists.intro _ (Exists.intro _ ⟨spec_l25Make.call hy ?_, rfl, rfl, ?_⟩)))
        | ((repeat (first | replace H := grd_k H | replace H := out_step H (by assumption))); refine loop_iter (G50_ok.at tok []) (ct := [(3, some [1, 2, 4]), (9, some [1, 4, 7, 8, 9, 10, 11])]) (F := (fun s1 : Int × Int × Int × Int × Int × Int × (List Slot) => ⟨sl [(1, (.tree ty_RopeStep a1)), (4, (.loc 0 0 0)), (7, (.loc 1 0 0)), (8, (.v (.int .i64 s1.1))), (9, (.v (.int .i64 s1.2.1)))], [some (.box 88 [(.v (.int .i64 (0 : Int))), (.v (.slice none 0 0)), (.v (.int .i64 (0 : Int))), (.v (.int .i64 (0 : Int))), (.v (.int .i64 (0 : Int)))]), some (.box 88 [(.v (.int .i64 s1.2.2.1)), (.own 2), (.v (.int .i64 s1.2.2.2.1)), (.v (.int .i64 s1.2.2.2.2.1)), (.v (.int .i64 s1.2.2.2.2.2.1))]), some (.arr 100 ty_Slot s1.2.2.2.2.2.2)]⟩)) (step := (fun s : Int × Int × Int × Int × Int × Int × (List Slot) => spec_RunRopeway_loop1 _ s.1 s.2.1 s.2.2.1 s.2.2.2.1 s.2.2.2.2.1 s.2.2.2.2.2.1 s.2.2.2.2.2.2)) _ H (by kernel_rfl) (sub_auto ?_) ?_; rotate_left; (intro s1 r v hr H); rotate_right)
        | ((repeat (first | replace H := grd_k H | replace H := out_step H (by assumption))); refine again_step H (by assumption) (sub_auto ?_))
        | ((with_reducible refine fin_mk ?_); (repeat (first | replace H := grd_k H | replace H := out_step H (by assumption))); have H := Option.some.inj H; subst H))
def G51 : Env := G50.add 73 [] spec_RunRopeway.S
theorem G51_ok : EnvOk Try.prog G51 := G50_ok.add ent_73 fun ar h r h1 ⟨a0, a1, y, hy, e1, e2, e3, e4⟩ => by
  subst e3 e4; exact (spec_RunRopeway.spec a0 a1 y hy).le e1 e2
attribute [local irreducible] spec_RunRopeway

noncomputable def impl_RunRopeway_loop1 (a1 : (List RopeStep)) (v30 : Int) (v31 : Int) (v32 : Int) (v33 : Int) (v34 : Int) (v35 : Int) (v36 : (List Slot)) : Option (Lp (Int × Int × Int × Int × Int × Int × (List Slot)) ((Int × Int × Int × Int × Int × (List Slot)))) :=
  (cond (decide (v31 < (a1.length : Int))) (grd (0 ≤ v31 ∧ v31 < (a1.length : Int)) ((impl_Ropeway_step (v32, v36, v33, v34, v35, ()) ((a1.getD v31.toNat d_RopeStep).1, (a1.getD v31.toNat d_RopeStep).2.1, ())).bind (Sum.elim (fun _ => (some (.go (v30, (w64 (v31 + (1 : Int))), v32, v33, v34, v35, v36)))) (fun y39 => (some (.go ((w64 (v30 + (1 : Int))), (w64 (v31 + (1 : Int))), y39.1, y39.2.2.1, y39.2.2.2.1, y39.2.2.2.2.1, y39.2.1))))))) ((some (.out (v30, v32, v33, v34, v35, v36)))))
noncomputable def impl_RunRopeway (a0 : Ropeway) (a1 : (List RopeStep)) : Option ((Ropeway × Int) ⊕ (Ropeway × Int)) :=
  ((impl_IsRopeway (a0.1, a0.2.1, a0.2.2.1, a0.2.2.2.1, a0.2.2.2.2.1, ())).bind fun y1 => (cond (!y1) ((some (Sum.inl (((0 : Int), [], (0 : Int), (0 : Int), (0 : Int), ()), (0 : Int))))) (cond (decide ((40 : Int) < (a1.length : Int))) ((some (Sum.inl (((0 : Int), [], (0 : Int), (0 : Int), (0 : Int), ()), (0 : Int))))) ((impl_copyRopeway (a0.1, a0.2.1, a0.2.2.1, a0.2.2.2.1, a0.2.2.2.2.1, ())).bind fun y2 => ((iter (fun s => impl_RunRopeway_loop1 a1 s.1 s.2.1 s.2.2.1 s.2.2.2.1 s.2.2.2.2.1 s.2.2.2.2.2.1 s.2.2.2.2.2.2) ((0 : Int), (0 : Int), y2.1, y2.2.2.1, y2.2.2.2.1, y2.2.2.2.2.1, y2.2.1)).bind (fun r40 => (some (Sum.inr ((r40.2.1, r40.2.2.2.2.2, r40.2.2.1, r40.2.2.2.1, r40.2.2.2.2.1, ()), r40.1)))))))))
def impl_RunRopeway.res (_ : Ropeway) (_ : (List RopeStep)) (y : (Ropeway × Int) ⊕ (Ropeway × Int)) : AV := match y with
  | (.inl y) => (.tup [(.agg [(.v (.int .i64 y.1.1)), (.v (.slice none 0 0)), (.v (.int .i64 y.1.2.2.1)), (.v (.int .i64 y.1.2.2.2.1)), (.v (.int .i64 y.1.2.2.2.2.1))]), (.v (.int .i64 y.2)), (.v (.bool false))])
  | (.inr y) => (.tup [(.agg [(.v (.int .i64 y.1.1)), (.own 0), (.v (.int .i64 y.1.2.2.1)), (.v (.int .i64 y.1.2.2.2.1)), (.v (.int .i64 y.1.2.2.2.2.1))]), (.v (.int .i64 y.2)), (.v (.bool true))])
def impl_RunRopeway.out (_ : Ropeway) (_ : (List RopeStep)) (y : (Ropeway × Int) ⊕ (Ropeway × Int)) : List (Option LB) := match y with
  | (.inl y) => []
  | (.inr y) => [some (.arr 100 ty_Slot y.1.2.1)]
def impl_RunRopeway.S (ar : List AV) (h : List (Option LB)) (r : AV) (h1 : List (Option LB)) : Prop := ∃ a0 a1 y, impl_RunRopeway a0 a1 = some y ∧ leL ar [(.agg [(.v (.int .i64 a0.1)), (.tree ty_Slot a0.2.1), (.v (.int .i64 a0.2.2.1)), (.v (.int .i64 a0.2.2.2.1)), (.v (.int .i64 a0.2.2.2.2.1))]), (.tree ty_RopeStep a1)] ∧ leH h [] ∧ r = impl_RunRopeway.res a0 a1 y ∧ h1 = impl_RunRopeway.out a0 a1 y
theorem impl_RunRopeway.call {ar : List AV} {h : List (Option LB)} {a0 : Ropeway} {a1 : (List RopeStep)} {y : (Ropeway × Int) ⊕ (Ropeway × Int)} (H : impl_RunRopeway a0 a1 = some y) (h0 : leLk ar [(.agg [(.v (.int .i64 a0.1)), (.tree ty_Slot a0.2.1), (.v (.int .i64 a0.2.2.1)), (.v (.int .i64 a0.2.2.2.1)), (.v (.int .i64 a0.2.2.2.2.1))]), (.tree ty_RopeStep a1)] (leHk h [])) : impl_RunRopeway.S ar h (impl_RunRopeway.res a0 a1 y) (impl_RunRopeway.out a0 a1 y) := ⟨a0, a1, y, H, (args_ok h0).1, (args_ok h0).2, rfl, rfl⟩
set_option maxHeartbeats 100000000 in
set_option maxRecDepth 100000 in
theorem impl_RunRopeway.spec (a0 : Ropeway) (a1 : (List RopeStep)) (y : (Ropeway × Int) ⊕ (Ropeway × Int)) (H : impl_RunRopeway a0 a1 = some y) : Spec Try.prog 72 [(.agg [(.v (.int .i64 a0.1)), (.tree ty_Slot a0.2.1), (.v (.int .i64 a0.2.2.1)), (.v (.int .i64 a0.2.2.2.1)), (.v (.int .i64 a0.2.2.2.2.1))]), (.tree ty_RopeStep a1)] [] (impl_RunRopeway.res a0 a1 y) (impl_RunRopeway.out a0 a1 y) := by
  have hlen : Nat.ble ([] : List (Option LB)).length (impl_RunRopeway.out a0 a1 y).length = true := by
    rcases y with y | y <;> rfl
  refine spec_intro (G51_ok.at tok []) (ct := [(3, some [1, 2, 4]), (10, some [4, 7, 8, 24, 25, 26])]) Try.func72 rfl (by kernel_rfl) (by kernel_rfl) hlen ?_
  repeat' first
    | ((with_reducible refine eqg ?_); exact rfl)
    | ((with_reducible refine KOb.mk ?_); kernel_rfl)
    | ((with_reducible intro h); (repeat (first | replace H := grd_k H | replace H := out_step H (by assumption))); first | replace H := cond_t h H | replace H := cond_f h H | exact absurd h (by decide) | skip)
    | ((with_reducible refine Ob.mk ?_); first | (with_reducible rfl) | (first | ((repeat (first | (with_reducible exact grd_p H) | (replace H := grd_k H) | (replace H := out_step H (by assumption)))); done) | rfl | ((repeat (first | exact grd_p H | replace H := grd_k H | replace H := out_step H (by assumption))); done) | ((repeat (first | exact grd_p H | (have hp := grd_p H; exact hp) | replace H := grd_k H | replace H := out_step H (by assumption) | (replace H := bind_some H; obtain ⟨_, _, H⟩ := H))); done) | (repeat (first | exact grd_p H | replace H := grd_k H | replace H := out_step H (by assumption)))))
    | (with_reducible exact True.intro)
    | constructor
    | ((conv => whnf); first
        | ((with_reducible refine Ob.mk ?_); first | (with_reducible rfl) | (first | ((repeat (first | (with_reducible exact grd_p H) | (replace H := grd_k H) | (replace H := out_step H (by assumption)))); done) | rfl | ((repeat (first | exact grd_p H | replace H := grd_k H | replace H := out_step H (by assumption))); done) | ((repeat (first | exact grd_p H | (have hp := grd_p H; exact hp) | replace H := grd_k H | replace H := out_step H (by assumption) | (replace H := bind_some H; obtain ⟨_, _, H⟩ := H))); done) | (repeat (first | exact grd_p H | replace H := grd_k H | replace H := out_step H (by assumption)))))
        | ((with_reducible refine CallW.mk ?_); (repeat (first | replace H := grd_k H | replace H := out_step H (by assumption))); replace H := bind_some H; obtain ⟨y, hy, H⟩ := H; first | ((with_reducible have hz : impl_IsRopeway _ = some y := hy); clear hz; refine Exists.intro _ (Exists.intro _ ⟨impl_IsRopeway.call hy ?_, rfl, rfl, ?_⟩)) | ((with_reducible have hz : impl_copyRopeway _ = some y := hy); clear hz; refine Exists.intro _ (Exists.intro _ ⟨impl_copyRopeway.call hy ?_, rfl, rfl, ?_⟩)) | ((with_reducible have hz : impl_Ropeway_step _ _ = some y := hy); clear hz; rcases y with y | y <;> refine Exists.intro _ (Exists.intro _ ⟨impl_Ropeway_step.call hy ?_, rfl, rfl, ?_⟩)))
        | ((repeat (first | replace H := grd_k H | replace H := out_step H (by assumption))); refine loop_iter (G51_ok.at tok []) (ct := [(3, some [1, 2, 4]), (10, some [4, 7, 8, 24, 25, 26])]) (F := (fun s1 : Int × Int × Int × Int × Int × Int × (List Slot) => ⟨sl [(4, (.loc 0 0 0)), (7, (.loc 1 0 0)), (8, (.v (.int .i64 s1.1))), (24, (.tree ty_RopeStep a1)), (25, (.v (.int .i64 (a1.length : Int)))), (26, (.v (.int .i64 s1.2.1)))], [some (.box 88 [(.v (.int .i64 (0 : Int))), (.v (.slice none 0 0)), (.v (.int .i64 (0 : Int))), (.v (.int .i64 (0 : Int))), (.v (.int .i64 (0 : Int)))]), some (.box 88 [(.v (.int .i64 s1.2.2.1)), (.own 2), (.v (.int .i64 s1.2.2.2.1)), (.v (.int .i64 s1.2.2.2.2.1)), (.v (.int .i64 s1.2.2.2.2.2.1))]), some (.arr 100 ty_Slot s1.2.2.2.2.2.2)]⟩)) (step := (fun s : Int × Int × Int × Int × Int × Int × (List Slot) => impl_RunRopeway_loop1 _ s.1 s.2.1 s.2.2.1 s.2.2.2.1 s.2.2.2.2.1 s.2.2.2.2.2.1 s.2.2.2.2.2.2)) _ H (by kernel_rfl) (sub_auto ?_) ?_; rotate_left; (intro s1 r v hr H); rotate_right)
        | ((repeat (first | replace H := grd_k H | replace H := out_step H (by assumption))); refine again_step H (by assumption) (sub_auto ?_))
        | ((with_reducible refine fin_mk ?_); (repeat (first | replace H := grd_k H | replace H := out_step H (by assumption))); have H := Option.some.inj H; subst H))
def G52 : Env := G51.add 72 [] impl_RunRopeway.S
theorem G52_ok : EnvOk Try.prog G52 := G51_ok.add ent_72 fun ar h r h1 ⟨a0, a1, y, hy, e1, e2, e3, e4⟩ => by
  subst e3 e4; exact (impl_RunRopeway.spec a0 a1 y hy).le e1 e2
attribute [local irreducible] impl_RunRopeway

end Go.Proofs.Ytmknleaomfpmmaa
