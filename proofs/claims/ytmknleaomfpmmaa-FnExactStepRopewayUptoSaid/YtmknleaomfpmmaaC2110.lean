/-
  Contracts, printed by a program.
-/
import Derived.Test.YtmknleaomfpmmaaC219
namespace Go.Proofs.Ytmknleaomfpmmaa
open Go.RowKit
attribute [local irreducible] Ob loopwp Sub Spec Fin Again CallW CutC KOb iter joinx outm

attribute [local irreducible] laws_szSlotS laws_szRopeway laws_toSlot laws_toSlotS laws_toRopeway laws_toRopeStep spec_l1In spec_l25Slot spec_l25Good spec_l25Step spec_l25Own spec_l25Open spec_l25Find spec_l25Rope spec_l25Station spec_l25People spec_l25Make spec_StepRopeway impl_within impl_Ropeway_isStation impl_IsRopeway_1_i1 slices_IndexFunc___impl_Slot_impl_Slot__i1 slices_ContainsFunc___impl_Slot_impl_Slot__i1 impl_IsRopeway slices_Clone___impl_Slot_impl_Slot_ impl_copyRopeway impl_Ropeway_act_1 slices_Grow___impl_Slot_impl_Slot__i1 slices_Concat___impl_Slot_impl_Slot_ impl_Ropeway_cabinAt_1_i1 slices_IndexFunc___impl_Slot_impl_Slot__i2 impl_Ropeway_cabinAt impl_Ropeway_stationOf slices_IndexFunc___impl_Slot_impl_Slot__i3 slices_ContainsFunc___impl_Slot_impl_Slot__i2 impl_Ropeway_act

noncomputable def impl_Ropeway_step (a0 : Ropeway) (a1 : RopeStep) : Option ((Ropeway) ⊕ (Ropeway)) :=
  ((impl_copyRopeway (a0.1, a0.2.1, a0.2.2.1, a0.2.2.2.1, a0.2.2.2.2.1, ())).bind fun y1 => ((impl_Ropeway_act (y1.1, y1.2.1, y1.2.2.1, y1.2.2.2.1, y1.2.2.2.2.1, ()) (a1.1, a1.2.1, ())).bind (Sum.elim (fun y3 => (cond (!y3.1) ((some (Sum.inl ((0 : Int), [], (0 : Int), (0 : Int), (0 : Int), ())))) ((impl_IsRopeway (y3.2.1, y3.2.2.1, y3.2.2.2.1, y3.2.2.2.2.1, y3.2.2.2.2.2.1, ())).bind fun y4 => (cond (!y4) ((some (Sum.inl ((0 : Int), [], (0 : Int), (0 : Int), (0 : Int), ())))) ((some (Sum.inr (y3.2.1, y3.2.2.1, y3.2.2.2.1, y3.2.2.2.2.1, y3.2.2.2.2.2.1, ())))))))) (fun y5 => (cond (!y5.1) ((some (Sum.inl ((0 : Int), [], (0 : Int), (0 : Int), (0 : Int), ())))) ((impl_IsRopeway (y5.2.1, y5.2.2.1, y5.2.2.2.1, y5.2.2.2.2.1, y5.2.2.2.2.2.1, ())).bind fun y6 => (cond (!y6) ((some (Sum.inl ((0 : Int), [], (0 : Int), (0 : Int), (0 : Int), ())))) ((some (Sum.inr (y5.2.1, y5.2.2.1, y5.2.2.2.1, y5.2.2.2.2.1, y5.2.2.2.2.2.1, ())))))))))))
def impl_Ropeway_step.res (_ : Ropeway) (_ : RopeStep) (y : (Ropeway) ⊕ (Ropeway)) : AV := match y with
  | (.inl y) => (.tup [(.agg [(.v (.int .i64 y.1)), (.v (.slice none 0 0)), (.v (.int .i64 y.2.2.1)), (.v (.int .i64 y.2.2.2.1)), (.v (.int .i64 y.2.2.2.2.1))]), (.v (.bool false))])
  | (.inr y) => (.tup [(.agg [(.v (.int .i64 y.1)), (.own 0), (.v (.int .i64 y.2.2.1)), (.v (.int .i64 y.2.2.2.1)), (.v (.int .i64 y.2.2.2.2.1))]), (.v (.bool true))])
def impl_Ropeway_step.out (_ : Ropeway) (_ : RopeStep) (y : (Ropeway) ⊕ (Ropeway)) : List (Option LB) := match y with
  | (.inl y) => []
  | (.inr y) => [some (.arr 100 ty_Slot y.2.1)]
def impl_Ropeway_step.S (ar : List AV) (h : List (Option LB)) (r : AV) (h1 : List (Option LB)) : Prop := ∃ a0 a1 y, impl_Ropeway_step a0 a1 = some y ∧ leL ar [(.agg [(.v (.int .i64 a0.1)), (.tree ty_Slot a0.2.1), (.v (.int .i64 a0.2.2.1)), (.v (.int .i64 a0.2.2.2.1)), (.v (.int .i64 a0.2.2.2.2.1))]), (.agg [(.v (.int .i64 a1.1)), (.v (.int .i64 a1.2.1))])] ∧ leH h [] ∧ r = impl_Ropeway_step.res a0 a1 y ∧ h1 = impl_Ropeway_step.out a0 a1 y
theorem impl_Ropeway_step.call {ar : List AV} {h : List (Option LB)} {a0 : Ropeway} {a1 : RopeStep} {y : (Ropeway) ⊕ (Ropeway)} (H : impl_Ropeway_step a0 a1 = some y) (h0 : leLk ar [(.agg [(.v (.int .i64 a0.1)), (.tree ty_Slot a0.2.1), (.v (.int .i64 a0.2.2.1)), (.v (.int .i64 a0.2.2.2.1)), (.v (.int .i64 a0.2.2.2.2.1))]), (.agg [(.v (.int .i64 a1.1)), (.v (.int .i64 a1.2.1))])] (leHk h [])) : impl_Ropeway_step.S ar h (impl_Ropeway_step.res a0 a1 y) (impl_Ropeway_step.out a0 a1 y) := ⟨a0, a1, y, H, (args_ok h0).1, (args_ok h0).2, rfl, rfl⟩
set_option maxHeartbeats 100000000 in
set_option maxRecDepth 100000 in
theorem impl_Ropeway_step.spec (a0 : Ropeway) (a1 : RopeStep) (y : (Ropeway) ⊕ (Ropeway)) (H : impl_Ropeway_step a0 a1 = some y) : Spec Try.prog 143 [(.agg [(.v (.int .i64 a0.1)), (.tree ty_Slot a0.2.1), (.v (.int .i64 a0.2.2.1)), (.v (.int .i64 a0.2.2.2.1)), (.v (.int .i64 a0.2.2.2.2.1))]), (.agg [(.v (.int .i64 a1.1)), (.v (.int .i64 a1.2.1))])] [] (impl_Ropeway_step.res a0 a1 y) (impl_Ropeway_step.out a0 a1 y) := by
  have hlen : Nat.ble ([] : List (Option LB)).length (impl_Ropeway_step.out a0 a1 y).length = true := by
    rcases y with y | y <;> rfl
  refine spec_intro (G36_ok.at tok []) (ct := [(3, some [4, 6, 16])]) Try.func143 rfl (by kernel_rfl) (by kernel_rfl) hlen ?_
  repeat' first
    | ((with_reducible refine eqg ?_); exact rfl)
    | ((with_reducible refine KOb.mk ?_); kernel_rfl)
    | ((with_reducible intro h); (repeat (first | replace H := grd_k H | replace H := out_step H (by assumption))); first | replace H := cond_t h H | replace H := cond_f h H | exact absurd h (by decide) | skip)
    | ((with_reducible refine Ob.mk ?_); first | (with_reducible rfl) | (first | ((repeat (first | (with_reducible exact grd_p H) | (replace H := grd_k H) | (replace H := out_step H (by assumption)))); done) | rfl | ((repeat (first | exact grd_p H | replace H := grd_k H | replace H := out_step H (by assumption))); done) | ((repeat (first | exact grd_p H | (have hp := grd_p H; exact hp) | replace H := grd_k H | replace H := out_step H (by assumption) | (replace H := bind_some H; obtain ⟨_, _, H⟩ := H))); done) | (repeat (first | exact grd_p H | replace H := grd_k H | replace H := out_step H (by assumption)))))
    | (with_reducible exact True.intro)
    | constructor
    | ((conv => whnf); first
        | ((with_reducible refine Ob.mk ?_); first | (with_reducible rfl) | (first | ((repeat (first | (with_reducible exact grd_p H) | (replace H := grd_k H) | (replace H := out_step H (by assumption)))); done) | rfl | ((repeat (first | exact grd_p H | replace H := grd_k H | replace H := out_step H (by assumption))); done) | ((repeat (first | exact grd_p H | (have hp := grd_p H; exact hp) | replace H := grd_k H | replace H := out_step H (by assumption) | (replace H := bind_some H; obtain ⟨_, _, H⟩ := H))); done) | (repeat (first | exact grd_p H | replace H := grd_k H | replace H := out_step H (by assumption)))))
        | ((with_reducible refine CallW.mk ?_); (repeat (first | replace H := grd_k H | replace H := out_step H (by assumption))); replace H := bind_some H; obtain ⟨y, hy, H⟩ := H; first | ((with_reducible have hz : impl_copyRopeway _ = some y := hy); clear hz; refine Exists.intro _ (Exists.intro _ ⟨impl_copyRopeway.call hy ?_, rfl, rfl, ?_⟩)) | ((with_reducible have hz : impl_Ropeway_act _ _ = some y := hy); clear hz; rcases y with y | y <;> refine Exists.intro _ (Exists.intro _ ⟨impl_Ropeway_act.call hy ?_, rfl, rfl, ?_⟩)) | ((with_reducible have hz : impl_IsRopeway _ = some y := hy); clear hz; refine Exists.intro _ (Exists.intro _ ⟨impl_IsRopeway.call hy ?_, rfl, rfl, ?_⟩)))
        | ((with_reducible refine fin_mk ?_); (repeat (first | replace H := grd_k H | replace H := out_step H (by assumption))); have H := Option.some.inj H; subst H))
def G37 : Env := G36.add 143 [] impl_Ropeway_step.S
theorem G37_ok : EnvOk Try.prog G37 := G36_ok.add ent_143 fun ar h r h1 ⟨a0, a1, y, hy, e1, e2, e3, e4⟩ => by
  subst e3 e4; exact (impl_Ropeway_step.spec a0 a1 y hy).le e1 e2
attribute [local irreducible] impl_Ropeway_step

noncomputable def impl_StepRopeway (a0 : Ropeway) (a1 : RopeStep) : Option ((Ropeway) ⊕ (Ropeway)) :=
  ((impl_IsRopeway (a0.1, a0.2.1, a0.2.2.1, a0.2.2.2.1, a0.2.2.2.2.1, ())).bind fun y1 => (cond (!y1) ((some (Sum.inl ((0 : Int), [], (0 : Int), (0 : Int), (0 : Int), ())))) ((impl_Ropeway_step (a0.1, a0.2.1, a0.2.2.1, a0.2.2.2.1, a0.2.2.2.2.1, ()) (a1.1, a1.2.1, ())).bind (Sum.elim (fun y3 => (some (Sum.inl (y3.1, [], y3.2.2.1, y3.2.2.2.1, y3.2.2.2.2.1, ())))) (fun y4 => (some (Sum.inr (y4.1, y4.2.1, y4.2.2.1, y4.2.2.2.1, y4.2.2.2.2.1, ()))))))))
def impl_StepRopeway.res (_ : Ropeway) (_ : RopeStep) (y : (Ropeway) ⊕ (Ropeway)) : AV := match y with
  | (.inl y) => (.tup [(.agg [(.v (.int .i64 y.1)), (.v (.slice none 0 0)), (.v (.int .i64 y.2.2.1)), (.v (.int .i64 y.2.2.2.1)), (.v (.int .i64 y.2.2.2.2.1))]), (.v (.bool false))])
  | (.inr y) => (.tup [(.agg [(.v (.int .i64 y.1)), (.own 0), (.v (.int .i64 y.2.2.1)), (.v (.int .i64 y.2.2.2.1)), (.v (.int .i64 y.2.2.2.2.1))]), (.v (.bool true))])
def impl_StepRopeway.out (_ : Ropeway) (_ : RopeStep) (y : (Ropeway) ⊕ (Ropeway)) : List (Option LB) := match y with
  | (.inl y) => []
  | (.inr y) => [some (.arr 100 ty_Slot y.2.1)]
def impl_StepRopeway.S (ar : List AV) (h : List (Option LB)) (r : AV) (h1 : List (Option LB)) : Prop := ∃ a0 a1 y, impl_StepRopeway a0 a1 = some y ∧ leL ar [(.agg [(.v (.int .i64 a0.1)), (.tree ty_Slot a0.2.1), (.v (.int .i64 a0.2.2.1)), (.v (.int .i64 a0.2.2.2.1)), (.v (.int .i64 a0.2.2.2.2.1))]), (.agg [(.v (.int .i64 a1.1)), (.v (.int .i64 a1.2.1))])] ∧ leH h [] ∧ r = impl_StepRopeway.res a0 a1 y ∧ h1 = impl_StepRopeway.out a0 a1 y
theorem impl_StepRopeway.call {ar : List AV} {h : List (Option LB)} {a0 : Ropeway} {a1 : RopeStep} {y : (Ropeway) ⊕ (Ropeway)} (H : impl_StepRopeway a0 a1 = some y) (h0 : leLk ar [(.agg [(.v (.int .i64 a0.1)), (.tree ty_Slot a0.2.1), (.v (.int .i64 a0.2.2.1)), (.v (.int .i64 a0.2.2.2.1)), (.v (.int .i64 a0.2.2.2.2.1))]), (.agg [(.v (.int .i64 a1.1)), (.v (.int .i64 a1.2.1))])] (leHk h [])) : impl_StepRopeway.S ar h (impl_StepRopeway.res a0 a1 y) (impl_StepRopeway.out a0 a1 y) := ⟨a0, a1, y, H, (args_ok h0).1, (args_ok h0).2, rfl, rfl⟩
set_option maxHeartbeats 100000000 in
set_option maxRecDepth 100000 in
theorem impl_StepRopeway.spec (a0 : Ropeway) (a1 : RopeStep) (y : (Ropeway) ⊕ (Ropeway)) (H : impl_StepRopeway a0 a1 = some y) : Spec Try.prog 64 [(.agg [(.v (.int .i64 a0.1)), (.tree ty_Slot a0.2.1), (.v (.int .i64 a0.2.2.1)), (.v (.int .i64 a0.2.2.2.1)), (.v (.int .i64 a0.2.2.2.2.1))]), (.agg [(.v (.int .i64 a1.1)), (.v (.int .i64 a1.2.1))])] [] (impl_StepRopeway.res a0 a1 y) (impl_StepRopeway.out a0 a1 y) := by
  have hlen : Nat.ble ([] : List (Option LB)).length (impl_StepRopeway.out a0 a1 y).length = true := by
    rcases y with y | y <;> rfl
  refine spec_intro (G37_ok.at tok []) (ct := []) Try.func64 rfl (by kernel_rfl) (by kernel_rfl) hlen ?_
  repeat' first
    | ((with_reducible refine eqg ?_); exact rfl)
    | ((with_reducible refine KOb.mk ?_); kernel_rfl)
    | ((with_reducible intro h); (repeat (first | replace H := grd_k H | replace H := out_step H (by assumption))); first | replace H := cond_t h H | replace H := cond_f h H | exact absurd h (by decide) | skip)
    | ((with_reducible refine Ob.mk ?_); first | (with_reducible rfl) | (first | ((repeat (first | (with_reducible exact grd_p H) | (replace H := grd_k H) | (replace H := out_step H (by assumption)))); done) | rfl | ((repeat (first | exact grd_p H | replace H := grd_k H | replace H := out_step H (by assumption))); done) | ((repeat (first | exact grd_p H | (have hp := grd_p H; exact hp) | replace H := grd_k H | replace H := out_step H (by assumption) | (replace H := bind_some H; obtain ⟨_, _, H⟩ := H))); done) | (repeat (first | exact grd_p H | replace H := grd_k H | replace H := out_step H (by assumption)))))
    | (with_reducible exact True.intro)
    | constructor
    | ((conv => whnf); first
        | ((with_reducible refine Ob.mk ?_); first | (with_reducible rfl) | (first | ((repeat (first | (with_reducible exact grd_p H) | (replace H := grd_k H) | (replace H := out_step H (by assumption)))); done) | rfl | ((repeat (first | exact grd_p H | replace H := grd_k H | replace H := out_step H (by assumption))); done) | ((repeat (first | exact grd_p H | (have hp := grd_p H; exact hp) | replace H := grd_k H | replace H := out_step H (by assumption) | (replace H := bind_some H; obtain ⟨_, _, H⟩ := H))); done) | (repeat (first | exact grd_p H | replace H := grd_k H | replace H := out_step H (by assumption)))))
        | ((with_reducible refine CallW.mk ?_); (repeat (first | replace H := grd_k H | replace H := out_step H (by assumption))); replace H := bind_some H; obtain ⟨y, hy, H⟩ := H; first | ((with_reducible have hz : impl_IsRopeway _ = some y := hy); clear hz; refine Exists.intro _ (Exists.intro _ ⟨impl_IsRopeway.call hy ?_, rfl, rfl, ?_⟩)) | ((with_reducible have hz : impl_Ropeway_step _ _ = some y := hy); clear hz; rcases y with y | y <;> refine Exists.intro _ (Exists.intro _ ⟨impl_Ropeway_step.call hy ?_, rfl, rfl, ?_⟩)))
        | ((with_reducible refine fin_mk ?_); (repeat (first | replace H := grd_k H | replace H := out_step H (by assumption))); have H := Option.some.inj H; subst H))
def G38 : Env := G37.add 64 [] impl_StepRopeway.S
theorem G38_ok : EnvOk Try.prog G38 := G37_ok.add ent_64 fun ar h r h1 ⟨a0, a1, y, hy, e1, e2, e3, e4⟩ => by
  subst e3 e4; exact (impl_StepRopeway.spec a0 a1 y hy).le e1 e2
attribute [local irreducible] impl_StepRopeway

noncomputable def laws_eqSlot (a0 : Slot) (a1 : Slot) : Option (Bool) :=
  (cond (!decide (a0.1 = a1.1)) ((some false)) (cond (!(a0.2.1 == a1.2.1)) ((some false)) (cond (!decide (a0.2.2.1 = a1.2.2.1)) ((some false)) ((some true)))))
def laws_eqSlot.res (_ : Slot) (_ : Slot) (y : Bool) : AV := (.bl y)
def laws_eqSlot.out (_ : Slot) (_ : Slot) (_ : Bool) : List (Option LB) := []
def laws_eqSlot.S (ar : List AV) (h : List (Option LB)) (r : AV) (h1 : List (Option LB)) : Prop := ∃ a0 a1 y, laws_eqSlot a0 a1 = some y ∧ leL ar [(.agg [(.v (.int .i64 a0.1)), (.bl a0.2.1), (.v (.int .i64 a0.2.2.1))]), (.agg [(.v (.int .i64 a1.1)), (.bl a1.2.1), (.v (.int .i64 a1.2.2.1))])] ∧ leH h [] ∧ r = laws_eqSlot.res a0 a1 y ∧ h1 = laws_eqSlot.out a0 a1 y
theorem laws_eqSlot.call {ar : List AV} {h : List (Option LB)} {a0 : Slot} {a1 : Slot} {y : Bool} (H : laws_eqSlot a0 a1 = some y) (h0 : leLk ar [(.agg [(.v (.int .i64 a0.1)), (.bl a0.2.1), (.v (.int .i64 a0.2.2.1))]), (.agg [(.v (.int .i64 a1.1)), (.bl a1.2.1), (.v (.int .i64 a1.2.2.1))])] (leHk h [])) : laws_eqSlot.S ar h (laws_eqSlot.res a0 a1 y) (laws_eqSlot.out a0 a1 y) := ⟨a0, a1, y, H, (args_ok h0).1, (args_ok h0).2, rfl, rfl⟩
set_option maxHeartbeats 100000000 in
set_option maxRecDepth 100000 in
theorem laws_eqSlot.spec (a0 : Slot) (a1 : Slot) (y : Bool) (H : laws_eqSlot a0 a1 = some y) : Spec Try.prog 186 [(.agg [(.v (.int .i64 a0.1)), (.bl a0.2.1), (.v (.int .i64 a0.2.2.1))]), (.agg [(.v (.int .i64 a1.1)), (.bl a1.2.1), (.v (.int .i64 a1.2.2.1))])] [] (laws_eqSlot.res a0 a1 y) (laws_eqSlot.out a0 a1 y) := by
  refine spec_intro (G38_ok.at tok []) (ct := [(4, some [2, 3, 14])]) Try.func186 rfl (by kernel_rfl) (by kernel_rfl) rfl ?_
  repeat' first
    | ((with_reducible refine eqg ?_); exact rfl)
    | ((with_reducible refine KOb.mk ?_); kernel_rfl)
    | ((with_reducible intro h); (repeat (first | replace H := grd_k H | replace H := out_step H (by assumption))); first | replace H := cond_t h H | replace H := cond_f h H | exact absurd h (by decide) | skip)
    | ((with_reducible refine Ob.mk ?_); first | (with_reducible rfl) | (first | ((repeat (first | (with_reducible exact grd_p H) | (replace H := grd_k H) | (replace H := out_step H (by assumption)))); done) | rfl | ((repeat (first | exact grd_p H | replace H := grd_k H | replace H := out_step H (by assumption))); done) | ((repeat (first | exact grd_p H | (have hp := grd_p H; exact hp) | replace H := grd_k H | replace H := out_step H (by assumption) | (replace H := bind_some H; obtain ⟨_, _, H⟩ := H))); done) | (repeat (first | exact grd_p H | replace H := grd_k H | replace H := out_step H (by assumption)))))
    | (with_reducible exact True.intro)
    | constructor
    | ((conv => whnf); first
        | ((with_reducible refine Ob.mk ?_); first | (with_reducible rfl) | (first | ((repeat (first | (with_reducible exact grd_p H) | (replace H := grd_k H) | (replace H := out_step H (by assumption)))); done) | rfl | ((repeat (first | exact grd_p H | replace H := grd_k H | replace H := out_step H (by assumption))); done) | ((repeat (first | exact grd_p H | (have hp := grd_p H; exact hp) | replace H := grd_k H | replace H := out_step H (by assumption) | (replace H := bind_some H; obtain ⟨_, _, H⟩ := H))); done) | (repeat (first | exact grd_p H | replace H := grd_k H | replace H := out_step H (by assumption)))))
        | ((with_reducible refine fin_mk ?_); (repeat (first | replace H := grd_k H | replace H := out_step H (by assumption))); have H := Option.some.inj H; subst H))
def G39 : Env := G38.add 186 [] laws_eqSlot.S
theorem G39_ok : EnvOk Try.prog G39 := G38_ok.add ent_186 fun ar h r h1 ⟨a0, a1, y, hy, e1, e2, e3, e4⟩ => by
  subst e3 e4; exact (laws_eqSlot.spec a0 a1 y hy).le e1 e2
attribute [local irreducible] laws_eqSlot

noncomputable def laws_eqSlotS_loop1 (a0 : (List Slot)) (a1 : (List Slot)) (v4 : Int) : Option (Lp (Int) ((Unit) ⊕ (Unit))) :=
  (cond (decide (v4 < (a0.length : Int))) (grd (0 ≤ v4 ∧ v4 < (a0.length : Int)) (grd (0 ≤ v4 ∧ v4 < (a1.length : Int)) ((laws_eqSlot ((a0.getD v4.toNat d_Slot).1, (a0.getD v4.toNat d_Slot).2.1, (a0.getD v4.toNat d_Slot).2.2.1, ()) ((a1.getD v4.toNat d_Slot).1, (a1.getD v4.toNat d_Slot).2.1, (a1.getD v4.toNat d_Slot).2.2.1, ())).bind fun y5 => (cond (!y5) ((some (.out (Sum.inl ())))) (some (.go (w64 (v4 + (1 : Int))))))))) ((some (.out (Sum.inr ())))))
noncomputable def laws_eqSlotS (a0 : (List Slot)) (a1 : (List Slot)) : Option (Bool) :=
  (cond (!decide ((a0.length : Int) = (a1.length : Int))) ((some false)) ((iter (fun s => laws_eqSlotS_loop1 a0 a1 s) (0 : Int)).bind (Sum.elim (fun _ => (some false)) (fun _ => (some true)))))
def laws_eqSlotS.res (_ : (List Slot)) (_ : (List Slot)) (y : Bool) : AV := (.bl y)
def laws_eqSlotS.out (_ : (List Slot)) (_ : (List Slot)) (_ : Bool) : List (Option LB) := []
def laws_eqSlotS.S (ar : List AV) (h : List (Option LB)) (r : AV) (h1 : List (Option LB)) : Prop := ∃ a0 a1 y, laws_eqSlotS a0 a1 = some y ∧ leL ar [(.tree ty_Slot a0), (.tree ty_Slot a1)] ∧ leH h [] ∧ r = laws_eqSlotS.res a0 a1 y ∧ h1 = laws_eqSlotS.out a0 a1 y
theorem laws_eqSlotS.call {ar : List AV} {h : List (Option LB)} {a0 : (List Slot)} {a1 : (List Slot)} {y : Bool} (H : laws_eqSlotS a0 a1 = some y) (h0 : leLk ar [(.tree ty_Slot a0), (.tree ty_Slot a1)] (leHk h [])) : laws_eqSlotS.S ar h (laws_eqSlotS.res a0 a1 y) (laws_eqSlotS.out a0 a1 y) := ⟨a0, a1, y, H, (args_ok h0).1, (args_ok h0).2, rfl, rfl⟩
set_option maxHeartbeats 100000000 in
set_option maxRecDepth 100000 in
theorem laws_eqSlotS.spec (a0 : (List Slot)) (a1 : (List Slot)) (y : Bool) (H : laws_eqSlotS a0 a1 = some y) : Spec Try.prog 156 [(.tree ty_Slot a0), (.tree ty_Slot a1)] [] (laws_eqSlotS.res a0 a1 y) (laws_eqSlotS.out a0 a1 y) := by
  refine spec_intro (G39_ok.at tok []) (ct := [(7, some [0, 1, 5, 26])]) Try.func156 rfl (by kernel_rfl) (by kernel_rfl) rfl ?_
  repeat' first
    | ((with_reducible refine eqg ?_); exact rfl)
    | ((with_reducible refine KOb.mk ?_); kernel_rfl)
    | ((with_reducible intro h); (repeat (first | replace H := grd_k H | replace H := out_step H (by assumption))); first | replace H := cond_t h H | replace H := cond_f h H | exact absurd h (by decide) | skip)
    | ((with_reducible refine Ob.mk ?_); first | (with_reducible rfl) | (first | ((repeat (first | (with_reducible exact grd_p H) | (replace H := grd_k H) | (replace H := out_step H (by assumption)))); done) | rfl | ((repeat (first | exact grd_p H | replace H := grd_k H | replace H := out_step H (by assumption))); done) | ((repeat (first | exact grd_p H | (have hp := grd_p H; exact hp) | replace H := grd_k H | replace H := out_step H (by assumption) | (replace H := bind_some H; obtain ⟨_, _, H⟩ := H))); done) | (repeat (first | exact grd_p H | replace H := grd_k H | replace H := out_step H (by assumption)))))
    | (with_reducible exact True.intro)
    | constructor
    | ((conv => whnf); first
        | ((with_reducible refine Ob.mk ?_); first | (with_reducible rfl) | (first | ((repeat (first | (with_reducible exact grd_p H) | (replace H := grd_k H) | (replace H := out_step H (by assumption)))); done) | rfl | ((repeat (first | exact grd_p H | replace H := grd_k H | replace H := out_step H (by assumption))); done) | ((repeat (first | exact grd_p H | (have hp := grd_p H; exact hp) | replace H := grd_k H | replace H := out_step H (by assumption) | (replace H := bind_some H; obtain ⟨_, _, H⟩ := H))); done) | (repeat (first | exact grd_p H | replace H := grd_k H | replace H := out_step H (by assumption)))))
        | ((with_reducible refine CallW.mk ?_); (repeat (first | replace H := grd_k H | replace H := out_step H (by assumption))); replace H := bind_some H; obtain ⟨y, hy, H⟩ := H; first | ((with_reducible have hz : laws_eqSlot _ _ = some y := hy); clear hz; refine Exists.intro _ (Exists.intro _ ⟨laws_eqSlot.call hy ?_, rfl, rfl, ?_⟩)))
        | ((repeat (first | replace H := grd_k H | replace H := out_step H (by assumption))); refine loop_iter (G39_ok.at tok []) (ct := [(7, some [0, 1, 5, 26])]) (F := (fun s1 : Int => ⟨sl [(0, (.tree ty_Slot a0)), (1, (.tree ty_Slot a1)), (5, (.v (.int .i64 s1)))], []⟩)) (step := (fun s : Int => laws_eqSlotS_loop1 _ _ s)) _ H (by kernel_rfl) (sub_auto ?_) ?_; rotate_left; (intro s1 r v hr H); rotate_right)
        | ((repeat (first | replace H := grd_k H | replace H := out_step H (by assumption))); refine again_step H (by assumption) (sub_auto ?_))
        | ((with_reducible refine fin_mk ?_); (repeat (first | replace H := grd_k H | replace H := out_step H (by assumption))); have H := Option.some.inj H; subst H))
def G40 : Env := G39.add 156 [] laws_eqSlotS.S
theorem G40_ok : EnvOk Try.prog G40 := G39_ok.add ent_156 fun ar h r h1 ⟨a0, a1, y, hy, e1, e2, e3, e4⟩ => by
  subst e3 e4; exact (laws_eqSlotS.spec a0 a1 y hy).le e1 e2
attribute [local irreducible] laws_eqSlotS

end Go.Proofs.Ytmknleaomfpmmaa
