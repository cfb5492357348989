/-
  Contracts, printed by a program.
-/
import Derived.Test.YtpopcdnjnligiaaC617
namespace Go.Proofs.Ytpopcdnjnligiaa
open Go.RowKit
attribute [local irreducible] Ob loopwp Sub Spec Fin Again CallW CutC KOb iter joinx outm

attribute [local irreducible] laws_vBig spec_l1Cur_next spec_l1Cur_pick spec_l1Cur_among spec_l1In spec_l25Slot spec_l25Good spec_NewRopeway spec_l25Open spec_l1Cur_one spec_l1Cur_ropeStep spec_l25Step spec_l25Own spec_l25Find spec_l25Rope spec_l25Station spec_l25People spec_l25Make spec_StepRopeway spec_l1Cur_ropeStep_i1 spec_l1Cur_ropeway spec_DrawTurnsTo impl_within impl_Ropeway_isStation impl_IsRopeway_1_i1 slices_IndexFunc___impl_Slot_impl_Slot__i1 slices_ContainsFunc___impl_Slot_impl_Slot__i1 impl_IsRopeway impl_Ropeway_cabinAt_1_i1 slices_IndexFunc___impl_Slot_impl_Slot__i2 impl_Ropeway_cabinAt impl_CabinAt impl_TurnsTo spec_CabinAt spec_TurnsTo slices_Clone___impl_Slot_impl_Slot_ impl_copyRopeway impl_Ropeway_act_1 slices_Grow___impl_Slot_impl_Slot__i1 slices_Concat___impl_Slot_impl_Slot_ impl_Ropeway_stationOf slices_IndexFunc___impl_Slot_impl_Slot__i3

noncomputable def slices_ContainsFunc___impl_Slot_impl_Slot__i2 (a0 : (List Slot)) : Option (Bool) :=
  ((slices_IndexFunc___impl_Slot_impl_Slot__i3 a0).bind fun y1 => (some (decide ((0 : Int) ≤ y1))))
def slices_ContainsFunc___impl_Slot_impl_Slot__i2.res (_ : (List Slot)) (y : Bool) : AV := (.bl y)
def slices_ContainsFunc___impl_Slot_impl_Slot__i2.out (_ : (List Slot)) (_ : Bool) : List (Option LB) := []
def slices_ContainsFunc___impl_Slot_impl_Slot__i2.S (ar : List AV) (h : List (Option LB)) (r : AV) (h1 : List (Option LB)) : Prop := ∃ a0 y, slices_ContainsFunc___impl_Slot_impl_Slot__i2 a0 = some y ∧ leL ar [(.tree ty_Slot a0), (.fn 171 [])] ∧ leH h [] ∧ r = slices_ContainsFunc___impl_Slot_impl_Slot__i2.res a0 y ∧ h1 = slices_ContainsFunc___impl_Slot_impl_Slot__i2.out a0 y
theorem slices_ContainsFunc___impl_Slot_impl_Slot__i2.call {ar : List AV} {h : List (Option LB)} {a0 : (List Slot)} {y : Bool} (H : slices_ContainsFunc___impl_Slot_impl_Slot__i2 a0 = some y) (h0 : leLk ar [(.tree ty_Slot a0), (.fn 171 [])] (leHk h [])) : slices_ContainsFunc___impl_Slot_impl_Slot__i2.S ar h (slices_ContainsFunc___impl_Slot_impl_Slot__i2.res a0 y) (slices_ContainsFunc___impl_Slot_impl_Slot__i2.out a0 y) := ⟨a0, y, H, (args_ok h0).1, (args_ok h0).2, rfl, rfl⟩
set_option maxHeartbeats 100000000 in
set_option maxRecDepth 100000 in
theorem slices_ContainsFunc___impl_Slot_impl_Slot__i2.spec (a0 : (List Slot)) (y : Bool) (H : slices_ContainsFunc___impl_Slot_impl_Slot__i2 a0 = some y) : Spec Try.prog 95 [(.tree ty_Slot a0), (.fn 171 [])] [] (slices_ContainsFunc___impl_Slot_impl_Slot__i2.res a0 y) (slices_ContainsFunc___impl_Slot_impl_Slot__i2.out a0 y) := by
  refine spec_intro (G42_ok.at tok []) (ct := []) Try.func95 rfl (by kernel_rfl) (by kernel_rfl) rfl ?_
  repeat' first
    | ((with_reducible refine eqg ?_); exact rfl)
    | ((with_reducible refine KOb.mk ?_); kernel_rfl)
    | ((with_reducible intro h); (repeat (first | replace H := grd_k H | replace H := out_step H (by assumption))); first | replace H := cond_t h H | replace H := cond_f h H | exact absurd h (by decide) | skip)
    | ((with_reducible refine Ob.mk ?_); first | (with_reducible rfl) | (first | ((repeat (first | (with_reducible exact grd_p H) | (replace H := grd_k H) | (replace H := out_step H (by assumption)))); done) | rfl | ((repeat (first | exact grd_p H | replace H := grd_k H | replace H := out_step H (by assumption))); done) | ((repeat (first | exact grd_p H | (have hp := grd_p H; exact hp) | replace H := grd_k H | replace H := out_step H (by assumption) | (replace H := bind_some H; obtain ⟨_, _, H⟩ := H))); done) | (repeat (first | exact grd_p H | replace H := grd_k H | replace H := out_step H (by assumption)))))
    | (with_reducible exact True.intro)
    | ((conv => whnf); first
        | (with_reducible refine And.intro ?_ ?_)
        | (with_reducible exact True.intro)
        | ((with_reducible refine Ob.mk ?_); first | (with_reducible rfl) | (first | ((repeat (first | (with_reducible exact grd_p H) | (replace H := grd_k H) | (replace H := out_step H (by assumption)))); done) | rfl | ((repeat (first | exact grd_p H | replace H := grd_k H | replace H := out_step H (by assumption))); done) | ((repeat (first | exact grd_p H | (have hp := grd_p H; exact hp) | replace H := grd_k H | replace H := out_step H (by assumption) | (replace H := bind_some H; obtain ⟨_, _, H⟩ := H))); done) | (repeat (first | exact grd_p H | replace H := grd_k H | replace H := out_step H (by assumption)))))
        | ((with_reducible refine CallW.mk ?_); (repeat (first | replace H := grd_k H | replace H := out_step H (by assumption))); replace H := bind_some H; obtain ⟨y, hy, H⟩ := H; first | ((with_reducible have hz : slices_IndexFunc___impl_Slot_impl_Slot__i3 _ = some y := hy); clear hz; refine Exists.intro _ (Exists.intro _ ⟨Or.inl (slices_IndexFunc___impl_Slot_impl_Slot__i3.call hy ?_), rfl, rfl, ?_⟩)))
        | ((with_reducible refine fin_mk ?_); (repeat (first | replace H := grd_k H | replace H := out_step H (by assumption))); have H := Option.some.inj H; subst H))
    | constructor
  all_goals exact viewz _ _
def G43 : Env := G42.addOr 95 [] slices_ContainsFunc___impl_Slot_impl_Slot__i2.S
theorem G43_ok : EnvOk Try.prog G43 := G42_ok.addOr ent_95 fun ar h r h1 ⟨a0, y, hy, e1, e2, e3, e4⟩ => by
  subst e3 e4; exact (slices_ContainsFunc___impl_Slot_impl_Slot__i2.spec a0 y hy).le e1 e2
attribute [local irreducible] slices_ContainsFunc___impl_Slot_impl_Slot__i2

noncomputable def impl_Ropeway_act (a0 : Ropeway) (a1 : RopeStep) : Option ((Bool × Ropeway) ⊕ (Bool × Ropeway)) :=
  (cond (decide (a1.1 = (1 : Int))) (cond (!decide (a1.2.1 = a0.1)) (cond (!decide (a0.1 = (3 : Int))) (cond (!decide (a1.2.1 = (2 : Int))) ((some (Sum.inl (true, (a1.2.1, a0.2.1, a0.2.2.1, a0.2.2.2.1, a0.2.2.2.2.1, ()))))) ((some (Sum.inl ((decide (a0.1 = (1 : Int))), (a1.2.1, a0.2.1, a0.2.2.1, a0.2.2.2.1, a0.2.2.2.2.1, ())))))) (cond (decide (a1.2.1 = (0 : Int))) (cond (!decide (a1.2.1 = (2 : Int))) ((some (Sum.inl (true, (a1.2.1, a0.2.1, a0.2.2.1, a0.2.2.2.1, a0.2.2.2.2.1, ()))))) ((some (Sum.inl ((decide (a0.1 = (1 : Int))), (a1.2.1, a0.2.1, a0.2.2.1, a0.2.2.2.1, a0.2.2.2.2.1, ())))))) ((some (Sum.inl (false, (a1.2.1, a0.2.1, a0.2.2.1, a0.2.2.2.1, a0.2.2.2.2.1, ()))))))) ((some (Sum.inl (false, (a1.2.1, a0.2.1, a0.2.2.1, a0.2.2.2.1, a0.2.2.2.2.1, ())))))) (cond (decide (a1.1 = (2 : Int))) ((slices_ContainsFunc___impl_Slot_impl_Slot__i2 a0.2.1).bind fun y1 => ((grd (0 ≤ (w64 ((a0.2.1.length : Int) - (1 : Int))) ∧ (w64 ((a0.2.1.length : Int) - (1 : Int))) ≤ (a0.2.1.length : Int) ∧ (a0.2.1.length : Int) ≤ (a0.2.1.length : Int)) (grd (0 ≤ (0 : Int) ∧ (0 : Int) ≤ (w64 ((a0.2.1.length : Int) - (1 : Int))) ∧ (w64 ((a0.2.1.length : Int) - (1 : Int))) ≤ (a0.2.1.length : Int)) ((slices_Concat___impl_Slot_impl_Slot_ [((a0.2.1.drop ((w64 ((a0.2.1.length : Int) - (1 : Int))).toNat)).take (((a0.2.1.length : Int) - (w64 ((a0.2.1.length : Int) - (1 : Int)))).toNat)), ((a0.2.1.drop ((0 : Int).toNat)).take (((w64 ((a0.2.1.length : Int) - (1 : Int))) - (0 : Int)).toNat))]).bind fun y2 => (some ((Tg.mk : Tg 1), y1, y2))))).bind fun z3 => (cond (decide (a1.2.1 = (0 : Int))) (cond (!z3.2.1) (cond (decide (a0.1 = (1 : Int))) ((some (Sum.inr (true, (a0.1, z3.2.2, a0.2.2.1, a0.2.2.2.1, a0.2.2.2.2.1, ()))))) ((some (Sum.inr ((decide (a0.1 = (2 : Int))), (a0.1, z3.2.2, a0.2.2.1, a0.2.2.2.1, a0.2.2.2.2.1, ())))))) ((some (Sum.inr (false, (a0.1, z3.2.2, a0.2.2.1, a0.2.2.2.1, a0.2.2.2.2.1, ())))))) ((some (Sum.inr (false, (a0.1, z3.2.2, a0.2.2.1, a0.2.2.2.1, a0.2.2.2.2.1, ())))))))) (cond (decide (a1.1 = (3 : Int))) (cond (decide (a0.1 = (0 : Int))) ((impl_within a1.2.1 (1 : Int) (20 : Int)).bind fun y4 => (cond y4 (grd (0 ≤ (0 : Int) ∧ (0 : Int) < (a0.2.1.length : Int)) (cond (decide (((a0.2.1.getD ((0 : Int).toNat) d_Slot).1) = (0 : Int))) ((impl_Ropeway_cabinAt (a0.1, a0.2.1, a0.2.2.1, a0.2.2.2.1, a0.2.2.2.2.1, ()) a1.2.1).bind fun y5 => (grd (0 ≤ (0 : Int) ∧ (0 : Int) < (a0.2.1.length : Int)) ((some (Sum.inl ((decide (y5 < (0 : Int))), (a0.1, (a0.2.1.set ((0 : Int).toNat) (a1.2.1, false, (0 : Int), ())), a0.2.2.1, a0.2.2.2.1, a0.2.2.2.2.1, ()))))))) (grd (0 ≤ (0 : Int) ∧ (0 : Int) < (a0.2.1.length : Int)) ((some (Sum.inl (false, (a0.1, (a0.2.1.set ((0 : Int).toNat) (a1.2.1, false, (0 : Int), ())), a0.2.2.1, a0.2.2.2.1, a0.2.2.2.2.1, ())))))))) (grd (0 ≤ (0 : Int) ∧ (0 : Int) < (a0.2.1.length : Int)) ((some (Sum.inl (false, (a0.1, (a0.2.1.set ((0 : Int).toNat) (a1.2.1, false, (0 : Int), ())), a0.2.2.1, a0.2.2.2.1, a0.2.2.2.2.1, ())))))))) (grd (0 ≤ (0 : Int) ∧ (0 : Int) < (a0.2.1.length : Int)) ((some (Sum.inl (false, (a0.1, (a0.2.1.set ((0 : Int).toNat) (a1.2.1, false, (0 : Int), ())), a0.2.2.1, a0.2.2.2.1, a0.2.2.2.2.1, ()))))))) (cond (decide (a1.1 = (4 : Int))) (cond (decide (a1.2.1 = (0 : Int))) (cond (decide (a0.1 = (0 : Int))) (grd (0 ≤ (0 : Int) ∧ (0 : Int) < (a0.2.1.length : Int)) (cond (decide ((0 : Int) < ((a0.2.1.getD ((0 : Int).toNat) d_Slot).1))) (grd (0 ≤ (0 : Int) ∧ (0 : Int) < (a0.2.1.length : Int)) (grd (0 ≤ (0 : Int) ∧ (0 : Int) < (a0.2.1.length : Int)) ((some (Sum.inl ((decide (((a0.2.1.getD ((0 : Int).toNat) d_Slot).2.2.1) = (0 : Int))), (a0.1, (a0.2.1.set ((0 : Int).toNat) ((0 : Int), false, (0 : Int), ())), a0.2.2.1, a0.2.2.2.1, a0.2.2.2.2.1, ()))))))) (grd (0 ≤ (0 : Int) ∧ (0 : Int) < (a0.2.1.length : Int)) ((some (Sum.inl (false, (a0.1, (a0.2.1.set ((0 : Int).toNat) ((0 : Int), false, (0 : Int), ())), a0.2.2.1, a0.2.2.2.1, a0.2.2.2.2.1, ())))))))) (grd (0 ≤ (0 : Int) ∧ (0 : Int) < (a0.2.1.length : Int)) ((some (Sum.inl (false, (a0.1, (a0.2.1.set ((0 : Int).toNat) ((0 : Int), false, (0 : Int), ())), a0.2.2.1, a0.2.2.2.1, a0.2.2.2.2.1, ()))))))) (grd (0 ≤ (0 : Int) ∧ (0 : Int) < (a0.2.1.length : Int)) ((some (Sum.inl (false, (a0.1, (a0.2.1.set ((0 : Int).toNat) ((0 : Int), false, (0 : Int), ())), a0.2.2.1, a0.2.2.2.1, a0.2.2.2.2.1, ()))))))) ((impl_within a1.2.1 (0 : Int) (1 : Int)).bind fun y6 => (cond (!y6) ((some (Sum.inl (false, (a0.1, a0.2.1, a0.2.2.1, a0.2.2.2.1, a0.2.2.2.2.1, ()))))) ((impl_Ropeway_stationOf (a0.1, a0.2.1, a0.2.2.1, a0.2.2.2.1, a0.2.2.2.2.1, ()) a1.2.1).bind fun y7 => (grd (0 ≤ y7 ∧ y7 < (a0.2.1.length : Int)) (cond (decide (a1.1 = (7 : Int))) (cond (decide ((0 : Int) < (((a0.2.1.set y7.toNat ((a0.2.1.getD y7.toNat d_Slot).1, (!((a0.2.1.getD y7.toNat d_Slot).2.1)), (a0.2.1.getD y7.toNat d_Slot).2.2.1, ())).getD y7.toNat d_Slot).1))) ((some (Sum.inl ((!decide (a0.1 = (2 : Int))), (a0.1, (a0.2.1.set y7.toNat ((a0.2.1.getD y7.toNat d_Slot).1, (!((a0.2.1.getD y7.toNat d_Slot).2.1)), (a0.2.1.getD y7.toNat d_Slot).2.2.1, ())), a0.2.2.1, a0.2.2.2.1, a0.2.2.2.2.1, ()))))) ((some (Sum.inl (false, (a0.1, (a0.2.1.set y7.toNat ((a0.2.1.getD y7.toNat d_Slot).1, (!((a0.2.1.getD y7.toNat d_Slot).2.1)), (a0.2.1.getD y7.toNat d_Slot).2.2.1, ())), a0.2.2.1, a0.2.2.2.1, a0.2.2.2.2.1, ())))))) (cond (decide (a1.1 = (5 : Int))) ((cond (decide (a1.2.1 = (0 : Int))) ((some (y7.toNat, (w64 (a0.2.2.1 - (1 : Int))), a0.2.2.2.1))) ((some (y7.toNat, a0.2.2.1, (w64 (a0.2.2.2.1 - (1 : Int))))))).bind fun z8 => (cond (((a0.2.1.set z8.1 ((a0.2.1.getD z8.1 d_Slot).1, (a0.2.1.getD z8.1 d_Slot).2.1, (w64 (((a0.2.1.getD z8.1 d_Slot).2.2.1) + (1 : Int))), ())).getD z8.1 d_Slot).2.1) (cond (decide (a1.2.1 = (1 : Int))) ((some (Sum.inl (true, (a0.1, (a0.2.1.set z8.1 ((a0.2.1.getD z8.1 d_Slot).1, (a0.2.1.getD z8.1 d_Slot).2.1, (w64 (((a0.2.1.getD z8.1 d_Slot).2.2.1) + (1 : Int))), ())), z8.2.1, z8.2.2, a0.2.2.2.2.1, ()))))) ((some (Sum.inl ((!decide (a0.1 = (3 : Int))), (a0.1, (a0.2.1.set z8.1 ((a0.2.1.getD z8.1 d_Slot).1, (a0.2.1.getD z8.1 d_Slot).2.1, (w64 (((a0.2.1.getD z8.1 d_Slot).2.2.1) + (1 : Int))), ())), z8.2.1, z8.2.2, a0.2.2.2.2.1, ())))))) ((some (Sum.inl (false, (a0.1, (a0.2.1.set z8.1 ((a0.2.1.getD z8.1 d_Slot).1, (a0.2.1.getD z8.1 d_Slot).2.1, (w64 (((a0.2.1.getD z8.1 d_Slot).2.2.1) + (1 : Int))), ())), z8.2.1, z8.2.2, a0.2.2.2.2.1, ()))))))) (cond (decide (a1.1 = (6 : Int))) (cond (decide (a1.2.1 = (0 : Int))) ((some (Sum.inl ((((a0.2.1.set y7.toNat ((a0.2.1.getD y7.toNat d_Slot).1, (a0.2.1.getD y7.toNat d_Slot).2.1, (w64 (((a0.2.1.getD y7.toNat d_Slot).2.2.1) - (1 : Int))), ())).getD y7.toNat d_Slot).2.1), (a0.1, (a0.2.1.set y7.toNat ((a0.2.1.getD y7.toNat d_Slot).1, (a0.2.1.getD y7.toNat d_Slot).2.1, (w64 (((a0.2.1.getD y7.toNat d_Slot).2.2.1) - (1 : Int))), ())), a0.2.2.1, a0.2.2.2.1, (w64 (a0.2.2.2.2.1 + (1 : Int))), ()))))) ((some (Sum.inl ((((a0.2.1.set y7.toNat ((a0.2.1.getD y7.toNat d_Slot).1, (a0.2.1.getD y7.toNat d_Slot).2.1, (w64 (((a0.2.1.getD y7.toNat d_Slot).2.2.1) - (1 : Int))), ())).getD y7.toNat d_Slot).2.1), (a0.1, (a0.2.1.set y7.toNat ((a0.2.1.getD y7.toNat d_Slot).1, (a0.2.1.getD y7.toNat d_Slot).2.1, (w64 (((a0.2.1.getD y7.toNat d_Slot).2.2.1) - (1 : Int))), ())), a0.2.2.1, (w64 (a0.2.2.2.1 + (1 : Int))), a0.2.2.2.2.1, ())))))) ((some (Sum.inl (false, (a0.1, a0.2.1, a0.2.2.1, a0.2.2.2.1, a0.2.2.2.2.1, ()))))))))))))))))
def impl_Ropeway_act.res (_ : Ropeway) (_ : RopeStep) (y : (Bool × Ropeway) ⊕ (Bool × Ropeway)) : AV := match y with
  | (.inl y) => (.bl y.1)
  | (.inr y) => (.bl y.1)
def impl_Ropeway_act.out (_ : Ropeway) (_ : RopeStep) (y : (Bool × Ropeway) ⊕ (Bool × Ropeway)) : List (Option LB) := match y with
  | (.inl y) => [some (.box 26 [(.v (.int .i64 y.2.1)), (.own 1), (.v (.int .i64 y.2.2.2.1)), (.v (.int .i64 y.2.2.2.2.1)), (.v (.int .i64 y.2.2.2.2.2.1))]), some (.arr 41 ty_Slot y.2.2.1)]
  | (.inr y) => [some (.box 26 [(.v (.int .i64 y.2.1)), (.own 2), (.v (.int .i64 y.2.2.2.1)), (.v (.int .i64 y.2.2.2.2.1)), (.v (.int .i64 y.2.2.2.2.2.1))]), none, some (.arr 41 ty_Slot y.2.2.1)]
def impl_Ropeway_act.S (ar : List AV) (h : List (Option LB)) (r : AV) (h1 : List (Option LB)) : Prop := ∃ a0 a1 y, impl_Ropeway_act a0 a1 = some y ∧ leL ar [(.loc 0 0 0), (.agg [(.v (.int .i64 a1.1)), (.v (.int .i64 a1.2.1))])] ∧ leH h [some (.box 26 [(.v (.int .i64 a0.1)), (.own 1), (.v (.int .i64 a0.2.2.1)), (.v (.int .i64 a0.2.2.2.1)), (.v (.int .i64 a0.2.2.2.2.1))]), some (.arr 41 ty_Slot a0.2.1)] ∧ r = impl_Ropeway_act.res a0 a1 y ∧ h1 = impl_Ropeway_act.out a0 a1 y
theorem impl_Ropeway_act.call {ar : List AV} {h : List (Option LB)} {a0 : Ropeway} {a1 : RopeStep} {y : (Bool × Ropeway) ⊕ (Bool × Ropeway)} (H : impl_Ropeway_act a0 a1 = some y) (h0 : leLk ar [(.loc 0 0 0), (.agg [(.v (.int .i64 a1.1)), (.v (.int .i64 a1.2.1))])] (leHk h [some (.box 26 [(.v (.int .i64 a0.1)), (.own 1), (.v (.int .i64 a0.2.2.1)), (.v (.int .i64 a0.2.2.2.1)), (.v (.int .i64 a0.2.2.2.2.1))]), some (.arr 41 ty_Slot a0.2.1)])) : impl_Ropeway_act.S ar h (impl_Ropeway_act.res a0 a1 y) (impl_Ropeway_act.out a0 a1 y) := ⟨a0, a1, y, H, (args_ok h0).1, (args_ok h0).2, rfl, rfl⟩
set_option maxHeartbeats 100000000 in
set_option maxRecDepth 100000 in
theorem impl_Ropeway_act.spec (a0 : Ropeway) (a1 : RopeStep) (y : (Bool × Ropeway) ⊕ (Bool × Ropeway)) (H : impl_Ropeway_act a0 a1 = some y) : Spec Try.prog 146 [(.loc 0 0 0), (.agg [(.v (.int .i64 a1.1)), (.v (.int .i64 a1.2.1))])] [some (.box 26 [(.v (.int .i64 a0.1)), (.own 1), (.v (.int .i64 a0.2.2.1)), (.v (.int .i64 a0.2.2.2.1)), (.v (.int .i64 a0.2.2.2.2.1))]), some (.arr 41 ty_Slot a0.2.1)] (impl_Ropeway_act.res a0 a1 y) (impl_Ropeway_act.out a0 a1 y) := by
  have hlen : Nat.ble ([some (.box 26 [(.v (.int .i64 a0.1)), (.own 1), (.v (.int .i64 a0.2.2.1)), (.v (.int .i64 a0.2.2.2.1)), (.v (.int .i64 a0.2.2.2.2.1))]), some (.arr 41 ty_Slot a0.2.1)] : List (Option LB)).length (impl_Ropeway_act.out a0 a1 y).length = true := by
    rcases y with y | y <;> rfl
  refine spec_intro (G43_ok.at tok []) (ct := [(10, none), (30, none), (5, some [0, 3, 6, 34, 35, 36, 37, 38, 39, 40, 43, 44, 45, 46, 47, 48, 49]), (8, some [0, 3, 5, 17, 51, 81, 82, 85, 86, 87, 88, 89, 90, 91, 92, 93, 94, 95, 96, 106, 107, 108, 111, 112, 113, 114, 115, 116, 117, 118, 121, 122, 123, 124, 125, 126, 127, 144, 145, 146, 147, 148, 151, 152, 153, 154, 155, 156, 157, 158, 161, 162, 163, 164, 165, 166, 167, 168, 210, 211, 212, 213, 214, 247, 248, 249, 250, 251, 252, 253, 254, 255, 256]), (13, some [0, 3, 8]), (17, some [0, 9]), (19, some [0, 3, 210, 211, 212, 213, 214, 247, 248, 249, 250, 251, 252, 253, 254, 255, 256]), (22, some [0, 3, 10, 210, 211, 212, 213, 214, 247, 248, 249, 250, 251, 252, 253, 254, 255, 256]), (36, some [10]), (38, some [])]) Try.func146 rfl (by kernel_rfl) (by kernel_rfl) hlen ?_
  repeat' first
    | ((with_reducible refine eqg ?_); exact rfl)
    | ((with_reducible refine KOb.mk ?_); kernel_rfl)
    | ((with_reducible intro h); (repeat (first | replace H := grd_k H | replace H := out_step H (by assumption))); first | replace H := cond_t h H | replace H := cond_f h H | exact absurd h (by decide) | skip)
    | ((with_reducible refine Ob.mk ?_); first | (with_reducible rfl) | (first | ((repeat (first | (with_reducible exact grd_p H) | (replace H := grd_k H) | (replace H := out_step H (by assumption)))); done) | rfl | ((repeat (first | exact grd_p H | replace H := grd_k H | replace H := out_step H (by assumption))); done) | ((repeat (first | exact grd_p H | (have hp := grd_p H; exact hp) | replace H := grd_k H | replace H := out_step H (by assumption) | (replace H := bind_some H; obtain ⟨_, _, H⟩ := H))); done) | (repeat (first | exact grd_p H | replace H := grd_k H | replace H := out_step H (by assumption)))))
    | (with_reducible exact True.intro)
    | ((conv => whnf); first
        | (with_reducible refine And.intro ?_ ?_)
        | (with_reducible exact True.intro)
        | ((with_reducible refine Ob.mk ?_); first | (with_reducible rfl) | (first | ((repeat (first | (with_reducible exact grd_p H) | (replace H := grd_k H) | (replace H := out_step H (by assumption)))); done) | rfl | ((repeat (first | exact grd_p H | replace H := grd_k H | replace H := out_step H (by assumption))); done) | ((repeat (first | exact grd_p H | (have hp := grd_p H; exact hp) | replace H := grd_k H | replace H := out_step H (by assumption) | (replace H := bind_some H; obtain ⟨_, _, H⟩ := H))); done) | (repeat (first | exact grd_p H | replace H := grd_k H | replace H := out_step H (by assumption)))))
        | ((with_reducible refine CallW.mk ?_); (repeat (first | replace H := grd_k H | replace H := out_step H (by assumption))); replace H := bind_some H; obtain ⟨y, hy, H⟩ := H; first | ((with_reducible have hz : slices_ContainsFunc___impl_Slot_impl_Slot__i2 _ = some y := hy); clear hz; refine Exists.intro _ (Exists.intro _ ⟨Or.inl (slices_ContainsFunc___impl_Slot_impl_Slot__i2.call hy ?_), rfl, rfl, ?_⟩)) | ((with_reducible have hz : slices_Concat___impl_Slot_impl_Slot_ _ = some y := hy); clear hz; refine Exists.intro _ (Exists.intro _ ⟨slices_Concat___impl_Slot_impl_Slot_.call hy ?_, rfl, rfl, ?_⟩)) | ((with_reducible have hz : impl_within _ _ _ = some y := hy); clear hz; refine Exists.intro _ (Exists.intro _ ⟨impl_within.call hy ?_, rfl, rfl, ?_⟩)) | ((with_reducible have hz : impl_Ropeway_cabinAt _ _ = some y := hy); clear hz; refine Exists.intro _ (Exists.intro _ ⟨impl_Ropeway_cabinAt.call hy ?_, rfl, rfl, ?_⟩)) | ((with_reducible have hz : impl_Ropeway_stationOf _ _ = some y := hy); clear hz; refine Exists.intro _ (Exists.intro _ ⟨impl_Ropeway_stationOf.call hy ?_, rfl, rfl, ?_⟩)))
        | ((with_reducible refine cutAt (id := 10) ?_); (repeat (first | replace H := grd_k H | replace H := out_step H (by assumption))); first | (replace H := bind_some H; obtain ⟨z, hz, H⟩ := H; have hT : Tg 1 × Bool × (List Slot) := z; clear hT; refine CutC.mk (id := 10) ⟨sl [(0, (.loc 0 0 0)), (3, (.loc 2 0 0)), (7, (.bl z.2.1))], [some (.box 26 [(.v (.int .i64 a0.1)), (.own 3), (.v (.int .i64 a0.2.2.1)), (.v (.int .i64 a0.2.2.2.1)), (.v (.int .i64 a0.2.2.2.2.1))]), none, some (.box 28 [(.v (.int .i64 a1.1)), (.v (.int .i64 a1.2.1))]), some (.arr 41 ty_Slot z.2.2)]⟩ ?_ ?_; (replace H := hz)))
        | ((with_reducible refine cutAt (id := 30) ?_); (repeat (first | replace H := grd_k H | replace H := out_step H (by assumption))); first | (replace H := bind_some H; obtain ⟨z, hz, H⟩ := H; refine CutC.mk (id := 30) ⟨sl [(0, (.loc 0 0 0)), (3, (.loc 2 0 0)), (10, (.loc 1 z.1 0))], [some (.box 26 [(.v (.int .i64 a0.1)), (.own 1), (.v (.int .i64 z.2.1)), (.v (.int .i64 z.2.2)), (.v (.int .i64 a0.2.2.2.2.1))]), some (.arr 41 ty_Slot a0.2.1), some (.box 28 [(.v (.int .i64 a1.1)), (.v (.int .i64 a1.2.1))])]⟩ ?_ ?_; (replace H := hz)))
        | ((repeat (first | replace H := grd_k H | replace H := out_step H (by assumption))); have H := Option.some.inj H; subst H; with_reducible refine sub_auto ?_)
        | ((with_reducible refine fin_mk ?_); (repeat (first | replace H := grd_k H | replace H := out_step H (by assumption))); have H := Option.some.inj H; subst H))
    | constructor
def G44 : Env := G43.add 146 [true] impl_Ropeway_act.S
theorem G44_ok : EnvOk Try.prog G44 := G43_ok.add ent_146 fun ar h r h1 ⟨a0, a1, y, hy, e1, e2, e3, e4⟩ => by
  subst e3 e4; exact (impl_Ropeway_act.spec a0 a1 y hy).le e1 e2
attribute [local irreducible] impl_Ropeway_act

noncomputable def impl_Ropeway_step (a0 : Ropeway) (a1 : RopeStep) : Option ((Ropeway) ⊕ (Ropeway)) :=
  ((impl_copyRopeway (a0.1, a0.2.1, a0.2.2.1, a0.2.2.2.1, a0.2.2.2.2.1, ())).bind fun y1 => ((impl_Ropeway_act (y1.1, y1.2.1, y1.2.2.1, y1.2.2.2.1, y1.2.2.2.2.1, ()) (a1.1, a1.2.1, ())).bind (Sum.elim (fun y3 => (cond (!y3.1) ((some (Sum.inl ((0 : Int), [], (0 : Int), (0 : Int), (0 : Int), ())))) ((impl_IsRopeway (y3.2.1, y3.2.2.1, y3.2.2.2.1, y3.2.2.2.2.1, y3.2.2.2.2.2.1, ())).bind fun y4 => (cond (!y4) ((some (Sum.inl ((0 : Int), [], (0 : Int), (0 : Int), (0 : Int), ())))) ((some (Sum.inr (y3.2.1, y3.2.2.1, y3.2.2.2.1, y3.2.2.2.2.1, y3.2.2.2.2.2.1, ())))))))) (fun y5 => (cond (!y5.1) ((some (Sum.inl ((0 : Int), [], (0 : Int), (0 : Int), (0 : Int), ())))) ((impl_IsRopeway (y5.2.1, y5.2.2.1, y5.2.2.2.1, y5.2.2.2.2.1, y5.2.2.2.2.2.1, ())).bind fun y6 => (cond (!y6) ((some (Sum.inl ((0 : Int), [], (0 : Int), (0 : Int), (0 : Int), ())))) ((some (Sum.inr (y5.2.1, y5.2.2.1, y5.2.2.2.1, y5.2.2.2.2.1, y5.2.2.2.2.2.1, ())))))))))))
def impl_Ropeway_step.res (_ : Ropeway) (_ : RopeStep) (y : (Ropeway) ⊕ (Ropeway)) : AV := match y with
  | (.inl y) => (.tup [(.agg [(.v (.int .i64 y.1)), (.v (.slice none 0 0)), (.v (.int .i64 y.2.2.1)), (.v (.int .i64 y.2.2.2.1)), (.v (.int .i64 y.2.2.2.2.1))]), (.v (.bool false))])
  | (.inr y) => (.tup [(.agg [(.v (.int .i64 y.1)), (.own 0), (.v (.int .i64 y.2.2.1)), (.v (.int .i64 y.2.2.2.1)), (.v (.int .i64 y.2.2.2.2.1))]), (.v (.bool true))])
def impl_Ropeway_step.out (_ : Ropeway) (_ : RopeStep) (y : (Ropeway) ⊕ (Ropeway)) : List (Option LB) := match y with
  | (.inl y) => []
  | (.inr y) => [some (.arr 41 ty_Slot y.2.1)]
def impl_Ropeway_step.S (ar : List AV) (h : List (Option LB)) (r : AV) (h1 : List (Option LB)) : Prop := ∃ a0 a1 y, impl_Ropeway_step a0 a1 = some y ∧ leL ar [(.agg [(.v (.int .i64 a0.1)), (.tree ty_Slot a0.2.1), (.v (.int .i64 a0.2.2.1)), (.v (.int .i64 a0.2.2.2.1)), (.v (.int .i64 a0.2.2.2.2.1))]), (.agg [(.v (.int .i64 a1.1)), (.v (.int .i64 a1.2.1))])] ∧ leH h [] ∧ r = impl_Ropeway_step.res a0 a1 y ∧ h1 = impl_Ropeway_step.out a0 a1 y
theorem impl_Ropeway_step.call {ar : List AV} {h : List (Option LB)} {a0 : Ropeway} {a1 : RopeStep} {y : (Ropeway) ⊕ (Ropeway)} (H : impl_Ropeway_step a0 a1 = some y) (h0 : leLk ar [(.agg [(.v (.int .i64 a0.1)), (.tree ty_Slot a0.2.1), (.v (.int .i64 a0.2.2.1)), (.v (.int .i64 a0.2.2.2.1)), (.v (.int .i64 a0.2.2.2.2.1))]), (.agg [(.v (.int .i64 a1.1)), (.v (.int .i64 a1.2.1))])] (leHk h [])) : impl_Ropeway_step.S ar h (impl_Ropeway_step.res a0 a1 y) (impl_Ropeway_step.out a0 a1 y) := ⟨a0, a1, y, H, (args_ok h0).1, (args_ok h0).2, rfl, rfl⟩
set_option maxHeartbeats 100000000 in
set_option maxRecDepth 100000 in
theorem impl_Ropeway_step.spec (a0 : Ropeway) (a1 : RopeStep) (y : (Ropeway) ⊕ (Ropeway)) (H : impl_Ropeway_step a0 a1 = some y) : Spec Try.prog 88 [(.agg [(.v (.int .i64 a0.1)), (.tree ty_Slot a0.2.1), (.v (.int .i64 a0.2.2.1)), (.v (.int .i64 a0.2.2.2.1)), (.v (.int .i64 a0.2.2.2.2.1))]), (.agg [(.v (.int .i64 a1.1)), (.v (.int .i64 a1.2.1))])] [] (impl_Ropeway_step.res a0 a1 y) (impl_Ropeway_step.out a0 a1 y) := by
  have hlen : Nat.ble ([] : List (Option LB)).length (impl_Ropeway_step.out a0 a1 y).length = true := by
    rcases y with y | y <;> rfl
  refine spec_intro (G44_ok.at tok []) (ct := [(3, some [4, 6, 16])]) Try.func88 rfl (by kernel_rfl) (by kernel_rfl) hlen ?_
  repeat' first
    | ((with_reducible refine eqg ?_); exact rfl)
    | ((with_reducible refine KOb.mk ?_); kernel_rfl)
    | ((with_reducible intro h); (repeat (first | replace H := grd_k H | replace H := out_step H (by assumption))); first | replace H := cond_t h H | replace H := cond_f h H | exact absurd h (by decide) | skip)
    | ((with_reducible refine Ob.mk ?_); first | (with_reducible rfl) | (first | ((repeat (first | (with_reducible exact grd_p H) | (replace H := grd_k H) | (replace H := out_step H (by assumption)))); done) | rfl | ((repeat (first | exact grd_p H | replace H := grd_k H | replace H := out_step H (by assumption))); done) | ((repeat (first | exact grd_p H | (have hp := grd_p H; exact hp) | replace H := grd_k H | replace H := out_step H (by assumption) | (replace H := bind_some H; obtain ⟨_, _, H⟩ := H))); done) | (repeat (first | exact grd_p H | replace H := grd_k H | replace H := out_step H (by assumption)))))
    | (with_reducible exact True.intro)
    | ((conv => whnf); first
        | (with_reducible refine And.intro ?_ ?_)
        | (with_reducible exact True.intro)
        | ((with_reducible refine Ob.mk ?_); first | (with_reducible rfl) | (first | ((repeat (first | (with_reducible exact grd_p H) | (replace H := grd_k H) | (replace H := out_step H (by assumption)))); done) | rfl | ((repeat (first | exact grd_p H | replace H := grd_k H | replace H := out_step H (by assumption))); done) | ((repeat (first | exact grd_p H | (have hp := grd_p H; exact hp) | replace H := grd_k H | replace H := out_step H (by assumption) | (replace H := bind_some H; obtain ⟨_, _, H⟩ := H))); done) | (repeat (first | exact grd_p H | replace H := grd_k H | replace H := out_step H (by assumption)))))
        | ((with_reducible refine CallW.mk ?_); (repeat (first | replace H := grd_k H | replace H := out_step H (by assumption))); replace H := bind_some H; obtain ⟨y, hy, H⟩ := H; first | ((with_reducible have hz : impl_copyRopeway _ = some y := hy); clear hz; refine Exists.intro _ (Exists.intro _ ⟨impl_copyRopeway.call hy ?_, rfl, rfl, ?_⟩)) | ((with_reducible have hz : impl_Ropeway_act _ _ = some y := hy); clear hz; rcases y with y | y <;> refine Exists.intro _ (Exists.intro _ ⟨impl_Ropeway_act.call hy ?_, rfl, rfl, ?_⟩)) | ((with_reducible have hz : impl_IsRopeway _ = some y := hy); clear hz; refine Exists.intro _ (Exists.intro _ ⟨impl_IsRopeway.call hy ?_, rfl, rfl, ?_⟩)))
        | ((with_reducible refine fin_mk ?_); (repeat (first | replace H := grd_k H | replace H := out_step H (by assumption))); have H := Option.some.inj H; subst H))
    | constructor
def G45 : Env := G44.add 88 [] impl_Ropeway_step.S
theorem G45_ok : EnvOk Try.prog G45 := G44_ok.add ent_88 fun ar h r h1 ⟨a0, a1, y, hy, e1, e2, e3, e4⟩ => by
  subst e3 e4; exact (impl_Ropeway_step.spec a0 a1 y hy).le e1 e2
attribute [local irreducible] impl_Ropeway_step

noncomputable def impl_StepRopeway (a0 : Ropeway) (a1 : RopeStep) : Option ((Ropeway) ⊕ (Ropeway)) :=
  ((impl_IsRopeway (a0.1, a0.2.1, a0.2.2.1, a0.2.2.2.1, a0.2.2.2.2.1, ())).bind fun y1 => (cond (!y1) ((some (Sum.inl ((0 : Int), [], (0 : Int), (0 : Int), (0 : Int), ())))) ((impl_Ropeway_step (a0.1, a0.2.1, a0.2.2.1, a0.2.2.2.1, a0.2.2.2.2.1, ()) (a1.1, a1.2.1, ())).bind (Sum.elim (fun y3 => (some (Sum.inl (y3.1, [], y3.2.2.1, y3.2.2.2.1, y3.2.2.2.2.1, ())))) (fun y4 => (some (Sum.inr (y4.1, y4.2.1, y4.2.2.1, y4.2.2.2.1, y4.2.2.2.2.1, ()))))))))
def impl_StepRopeway.res (_ : Ropeway) (_ : RopeStep) (y : (Ropeway) ⊕ (Ropeway)) : AV := match y with
  | (.inl y) => (.tup [(.agg [(.v (.int .i64 y.1)), (.v (.slice none 0 0)), (.v (.int .i64 y.2.2.1)), (.v (.int .i64 y.2.2.2.1)), (.v (.int .i64 y.2.2.2.2.1))]), (.v (.bool false))])
  | (.inr y) => (.tup [(.agg [(.v (.int .i64 y.1)), (.own 0), (.v (.int .i64 y.2.2.1)), (.v (.int .i64 y.2.2.2.1)), (.v (.int .i64 y.2.2.2.2.1))]), (.v (.bool true))])
def impl_StepRopeway.out (_ : Ropeway) (_ : RopeStep) (y : (Ropeway) ⊕ (Ropeway)) : List (Option LB) := match y with
  | (.inl y) => []
  | (.inr y) => [some (.arr 41 ty_Slot y.2.1)]
def impl_StepRopeway.S (ar : List AV) (h : List (Option LB)) (r : AV) (h1 : List (Option LB)) : Prop := ∃ a0 a1 y, impl_StepRopeway a0 a1 = some y ∧ leL ar [(.agg [(.v (.int .i64 a0.1)), (.tree ty_Slot a0.2.1), (.v (.int .i64 a0.2.2.1)), (.v (.int .i64 a0.2.2.2.1)), (.v (.int .i64 a0.2.2.2.2.1))]), (.agg [(.v (.int .i64 a1.1)), (.v (.int .i64 a1.2.1))])] ∧ leH h [] ∧ r = impl_StepRopeway.res a0 a1 y ∧ h1 = impl_StepRopeway.out a0 a1 y
theorem impl_StepRopeway.call {ar : List AV} {h : List (Option LB)} {a0 : Ropeway} {a1 : RopeStep} {y : (Ropeway) ⊕ (Ropeway)} (H : impl_StepRopeway a0 a1 = some y) (h0 : leLk ar [(.agg [(.v (.int .i64 a0.1)), (.tree ty_Slot a0.2.1), (.v (.int .i64 a0.2.2.1)), (.v (.int .i64 a0.2.2.2.1)), (.v (.int .i64 a0.2.2.2.2.1))]), (.agg [(.v (.int .i64 a1.1)), (.v (.int .i64 a1.2.1))])] (leHk h [])) : impl_StepRopeway.S ar h (impl_StepRopeway.res a0 a1 y) (impl_StepRopeway.out a0 a1 y) := ⟨a0, a1, y, H, (args_ok h0).1, (args_ok h0).2, rfl, rfl⟩
set_option maxHeartbeats 100000000 in
set_option maxRecDepth 100000 in
theorem impl_StepRopeway.spec (a0 : Ropeway) (a1 : RopeStep) (y : (Ropeway) ⊕ (Ropeway)) (H : impl_StepRopeway a0 a1 = some y) : Spec Try.prog 12 [(.agg [(.v (.int .i64 a0.1)), (.tree ty_Slot a0.2.1), (.v (.int .i64 a0.2.2.1)), (.v (.int .i64 a0.2.2.2.1)), (.v (.int .i64 a0.2.2.2.2.1))]), (.agg [(.v (.int .i64 a1.1)), (.v (.int .i64 a1.2.1))])] [] (impl_StepRopeway.res a0 a1 y) (impl_StepRopeway.out a0 a1 y) := by
  have hlen : Nat.ble ([] : List (Option LB)).length (impl_StepRopeway.out a0 a1 y).length = true := by
    rcases y with y | y <;> rfl
  refine spec_intro (G45_ok.at tok []) (ct := []) Try.func12 rfl (by kernel_rfl) (by kernel_rfl) hlen ?_
  repeat' first
    | ((with_reducible refine eqg ?_); exact rfl)
    | ((with_reducible refine KOb.mk ?_); kernel_rfl)
    | ((with_reducible intro h); (repeat (first | replace H := grd_k H | replace H := out_step H (by assumption))); first | replace H := cond_t h H | replace H := cond_f h H | exact absurd h (by decide) | skip)
    | ((with_reducible refine Ob.mk ?_); first | (with_reducible rfl) | (first | ((repeat (first | (with_reducible exact grd_p H) | (replace H := grd_k H) | (replace H := out_step H (by assumption)))); done) | rfl | ((repeat (first | exact grd_p H | replace H := grd_k H | replace H := out_step H (by assumption))); done) | ((repeat (first | exact grd_p H | (have hp := grd_p H; exact hp) | replace H := grd_k H | replace H := out_step H (by assumption) | (replace H := bind_some H; obtain ⟨_, _, H⟩ := H))); done) | (repeat (first | exact grd_p H | replace H := grd_k H | replace H := out_step H (by assumption)))))
    | (with_reducible exact True.intro)
    | ((conv => whnf); first
        | (with_reducible refine And.intro ?_ ?_)
        | (with_reducible exact True.intro)
        | ((with_reducible refine Ob.mk ?_); first | (with_reducible rfl) | (first | ((repeat (first | (with_reducible exact grd_p H) | (replace H := grd_k H) | (replace H := out_step H (by assumption)))); done) | rfl | ((repeat (first | exact grd_p H | replace H := grd_k H | replace H := out_step H (by assumption))); done) | ((repeat (first | exact grd_p H | (have hp := grd_p H; exact hp) | replace H := grd_k H | replace H := out_step H (by assumption) | (replace H := bind_some H; obtain ⟨_, _, H⟩ := H))); done) | (repeat (first | exact grd_p H | replace H := grd_k H | replace H := out_step H (by assumption)))))
        | ((with_reducible refine CallW.mk ?_); (repeat (first | replace H := grd_k H | replace H := out_step H (by assumption))); replace H := bind_some H; obtain ⟨y, hy, H⟩ := H; first | ((with_reducible have hz : impl_IsRopeway _ = some y := hy); clear hz; refine Exists.intro _ (Exists.intro _ ⟨impl_IsRopeway.call hy ?_, rfl, rfl, ?_⟩)) | ((with_reducible have hz : impl_Ropeway_step _ _ = some y := hy); clear hz; rcases y with y | y <;> refine Exists.intro _ (Exists.intro _ ⟨impl_Ropeway_step.call hy ?_, rfl, rfl, ?_⟩)))
        | ((with_reducible refine fin_mk ?_); (repeat (first | replace H := grd_k H | replace H := out_step H (by assumption))); have H := Option.some.inj H; subst H))
    | constructor
def G46 : Env := G45.add 12 [] impl_StepRopeway.S
theorem G46_ok : EnvOk Try.prog G46 := G45_ok.add ent_12 fun ar h r h1 ⟨a0, a1, y, hy, e1, e2, e3, e4⟩ => by
  subst e3 e4; exact (impl_StepRopeway.spec a0 a1 y hy).le e1 e2
attribute [local irreducible] impl_StepRopeway

noncomputable def spec_DrawIsRopeway (a0 : (List Int)) : Option ((Ropeway) ⊕ (Ropeway)) :=
  ((spec_l1Cur_ropeway (a0, (0 : Int), (0 : Int), ())).bind (Sum.elim (fun y2 => (some (Sum.inl (y2.1.1, [], y2.1.2.2.1, y2.1.2.2.2.1, y2.1.2.2.2.2.1, ())))) (fun y3 => (some (Sum.inr (y3.1.1, y3.1.2.1, y3.1.2.2.1, y3.1.2.2.2.1, y3.1.2.2.2.2.1, ()))))))
def spec_DrawIsRopeway.res (_ : (List Int)) (y : (Ropeway) ⊕ (Ropeway)) : AV := match y with
  | (.inl y) => (.agg [(.v (.int .i64 y.1)), (.v (.slice none 0 0)), (.v (.int .i64 y.2.2.1)), (.v (.int .i64 y.2.2.2.1)), (.v (.int .i64 y.2.2.2.2.1))])
  | (.inr y) => (.agg [(.v (.int .i64 y.1)), (.own 0), (.v (.int .i64 y.2.2.1)), (.v (.int .i64 y.2.2.2.1)), (.v (.int .i64 y.2.2.2.2.1))])
def spec_DrawIsRopeway.out (_ : (List Int)) (y : (Ropeway) ⊕ (Ropeway)) : List (Option LB) := match y with
  | (.inl y) => []
  | (.inr y) => [some (.arr 41 ty_Slot y.2.1)]
def spec_DrawIsRopeway.S (ar : List AV) (h : List (Option LB)) (r : AV) (h1 : List (Option LB)) : Prop := ∃ a0 y, spec_DrawIsRopeway a0 = some y ∧ leL ar [(.tree (.int .u8) a0)] ∧ leH h [] ∧ r = spec_DrawIsRopeway.res a0 y ∧ h1 = spec_DrawIsRopeway.out a0 y
theorem spec_DrawIsRopeway.call {ar : List AV} {h : List (Option LB)} {a0 : (List Int)} {y : (Ropeway) ⊕ (Ropeway)} (H : spec_DrawIsRopeway a0 = some y) (h0 : leLk ar [(.tree (.int .u8) a0)] (leHk h [])) : spec_DrawIsRopeway.S ar h (spec_DrawIsRopeway.res a0 y) (spec_DrawIsRopeway.out a0 y) := ⟨a0, y, H, (args_ok h0).1, (args_ok h0).2, rfl, rfl⟩
set_option maxHeartbeats 100000000 in
set_option maxRecDepth 100000 in
theorem spec_DrawIsRopeway.spec (a0 : (List Int)) (y : (Ropeway) ⊕ (Ropeway)) (H : spec_DrawIsRopeway a0 = some y) : Spec Try.prog 105 [(.tree (.int .u8) a0)] [] (spec_DrawIsRopeway.res a0 y) (spec_DrawIsRopeway.out a0 y) := by
  have hlen : Nat.ble ([] : List (Option LB)).length (spec_DrawIsRopeway.out a0 y).length = true := by
    rcases y with y | y <;> rfl
  refine spec_intro (G46_ok.at tok []) (ct := []) Try.func105 rfl (by kernel_rfl) (by kernel_rfl) hlen ?_
  repeat' first
    | ((with_reducible refine eqg ?_); exact rfl)
    | ((with_reducible refine KOb.mk ?_); kernel_rfl)
    | ((with_reducible intro h); (repeat (first | replace H := grd_k H | replace H := out_step H (by assumption))); first | replace H := cond_t h H | replace H := cond_f h H | exact absurd h (by decide) | skip)
    | ((with_reducible refine Ob.mk ?_); first | (with_reducible rfl) | (first | ((repeat (first | (with_reducible exact grd_p H) | (replace H := grd_k H) | (replace H := out_step H (by assumption)))); done) | rfl | ((repeat (first | exact grd_p H | replace H := grd_k H | replace H := out_step H (by assumption))); done) | ((repeat (first | exact grd_p H | (have hp := grd_p H; exact hp) | replace H := grd_k H | replace H := out_step H (by assumption) | (replace H := bind_some H; obtain ⟨_, _, H⟩ := H))); done) | (repeat (first | exact grd_p H | replace H := grd_k H | replace H := out_step H (by assumption)))))
    | (with_reducible exact True.intro)
    | ((conv => whnf); first
        | (with_reducible refine And.intro ?_ ?_)
        | (with_reducible exact True.intro)
        | ((with_reducible refine Ob.mk ?_); first | (with_reducible rfl) | (first | ((repeat (first | (with_reducible exact grd_p H) | (replace H := grd_k H) | (replace H := out_step H (by assumption)))); done) | rfl | ((repeat (first | exact grd_p H | replace H := grd_k H | replace H := out_step H (by assumption))); done) | ((repeat (first | exact grd_p H | (have hp := grd_p H; exact hp) | replace H := grd_k H | replace H := out_step H (by assumption) | (replace H := bind_some H; obtain ⟨_, _, H⟩ := H))); done) | (repeat (first | exact grd_p H | replace H := grd_k H | replace H := out_step H (by assumption)))))
        | ((with_reducible refine CallW.mk ?_); (repeat (first | replace H := grd_k H | replace H := out_step H (by assumption))); replace H := bind_some H; obtain ⟨y, hy, H⟩ := H; first | ((with_reducible have hz : spec_l1Cur_ropeway _ = some y := hy); clear hz; rcases y with y | y <;> refine Exists.intro _ (Exists.intro _ ⟨spec_l1Cur_ropeway.call hy ?_, rfl, rfl, ?_⟩)))
        | ((with_reducible refine fin_mk ?_); (repeat (first | replace H := grd_k H | replace H := out_step H (by assumption))); have H := Option.some.inj H; subst H))
    | constructor
def G47 : Env := G46.add 105 [] spec_DrawIsRopeway.S
theorem G47_ok : EnvOk Try.prog G47 := G46_ok.add ent_105 fun ar h r h1 ⟨a0, y, hy, e1, e2, e3, e4⟩ => by
  subst e3 e4; exact (spec_DrawIsRopeway.spec a0 y hy).le e1 e2
attribute [local irreducible] spec_DrawIsRopeway

noncomputable def spec_DrawIsCleared (a0 : (List Int)) : Option ((Ropeway) ⊕ (Ropeway)) :=
  ((spec_DrawIsRopeway a0).bind (Sum.elim (fun y2 => (some (Sum.inl (y2.1, [], y2.2.2.1, y2.2.2.2.1, y2.2.2.2.2.1, ())))) (fun y3 => (some (Sum.inr (y3.1, y3.2.1, y3.2.2.1, y3.2.2.2.1, y3.2.2.2.2.1, ()))))))
def spec_DrawIsCleared.res (_ : (List Int)) (y : (Ropeway) ⊕ (Ropeway)) : AV := match y with
  | (.inl y) => (.agg [(.v (.int .i64 y.1)), (.v (.slice none 0 0)), (.v (.int .i64 y.2.2.1)), (.v (.int .i64 y.2.2.2.1)), (.v (.int .i64 y.2.2.2.2.1))])
  | (.inr y) => (.agg [(.v (.int .i64 y.1)), (.own 0), (.v (.int .i64 y.2.2.1)), (.v (.int .i64 y.2.2.2.1)), (.v (.int .i64 y.2.2.2.2.1))])
def spec_DrawIsCleared.out (_ : (List Int)) (y : (Ropeway) ⊕ (Ropeway)) : List (Option LB) := match y with
  | (.inl y) => []
  | (.inr y) => [some (.arr 41 ty_Slot y.2.1)]
def spec_DrawIsCleared.S (ar : List AV) (h : List (Option LB)) (r : AV) (h1 : List (Option LB)) : Prop := ∃ a0 y, spec_DrawIsCleared a0 = some y ∧ leL ar [(.tree (.int .u8) a0)] ∧ leH h [] ∧ r = spec_DrawIsCleared.res a0 y ∧ h1 = spec_DrawIsCleared.out a0 y
theorem spec_DrawIsCleared.call {ar : List AV} {h : List (Option LB)} {a0 : (List Int)} {y : (Ropeway) ⊕ (Ropeway)} (H : spec_DrawIsCleared a0 = some y) (h0 : leLk ar [(.tree (.int .u8) a0)] (leHk h [])) : spec_DrawIsCleared.S ar h (spec_DrawIsCleared.res a0 y) (spec_DrawIsCleared.out a0 y) := ⟨a0, y, H, (args_ok h0).1, (args_ok h0).2, rfl, rfl⟩
set_option maxHeartbeats 100000000 in
set_option maxRecDepth 100000 in
theorem spec_DrawIsCleared.spec (a0 : (List Int)) (y : (Ropeway) ⊕ (Ropeway)) (H : spec_DrawIsCleared a0 = some y) : Spec Try.prog 29 [(.tree (.int .u8) a0)] [] (spec_DrawIsCleared.res a0 y) (spec_DrawIsCleared.out a0 y) := by
  have hlen : Nat.ble ([] : List (Option LB)).length (spec_DrawIsCleared.out a0 y).length = true := by
    rcases y with y | y <;> rfl
  refine spec_intro (G47_ok.at tok []) (ct := []) Try.func29 rfl (by kernel_rfl) (by kernel_rfl) hlen ?_
  repeat' first
    | ((with_reducible refine eqg ?_); exact rfl)
    | ((with_reducible refine KOb.mk ?_); kernel_rfl)
    | ((with_reducible intro h); (repeat (first | replace H := grd_k H | replace H := out_step H (by assumption))); first | replace H := cond_t h H | replace H := cond_f h H | exact absurd h (by decide) | skip)
    | ((with_reducible refine Ob.mk ?_); first | (with_reducible rfl) | (first | ((repeat (first | (with_reducible exact grd_p H) | (replace H := grd_k H) | (replace H := out_step H (by assumption)))); done) | rfl | ((repeat (first | exact grd_p H | replace H := grd_k H | replace H := out_step H (by assumption))); done) | ((repeat (first | exact grd_p H | (have hp := grd_p H; exact hp) | replace H := grd_k H | replace H := out_step H (by assumption) | (replace H := bind_some H; obtain ⟨_, _, H⟩ := H))); done) | (repeat (first | exact grd_p H | replace H := grd_k H | replace H := out_step H (by assumption)))))
    | (with_reducible exact True.intro)
    | ((conv => whnf); first
        | (with_reducible refine And.intro ?_ ?_)
        | (with_reducible exact True.intro)
        | ((with_reducible refine Ob.mk ?_); first | (with_reducible rfl) | (first | ((repeat (first | (with_reducible exact grd_p H) | (replace H := grd_k H) | (replace H := out_step H (by assumption)))); done) | rfl | ((repeat (first | exact grd_p H | replace H := grd_k H | replace H := out_step H (by assumption))); done) | ((repeat (first | exact grd_p H | (have hp := grd_p H; exact hp) | replace H := grd_k H | replace H := out_step H (by assumption) | (replace H := bind_some H; obtain ⟨_, _, H⟩ := H))); done) | (repeat (first | exact grd_p H | replace H := grd_k H | replace H := out_step H (by assumption)))))
        | ((with_reducible refine CallW.mk ?_); (repeat (first | replace H := grd_k H | replace H := out_step H (by assumption))); replace H := bind_some H; obtain ⟨y, hy, H⟩ := H; first | ((with_reducible have hz : spec_DrawIsRopeway _ = some y := hy); clear hz; rcases y with y | y <;> refine Exists.intro _ (Exists.intro _ ⟨spec_DrawIsRopeway.call hy ?_, rfl, rfl, ?_⟩)))
        | ((with_reducible refine fin_mk ?_); (repeat (first | replace H := grd_k H | replace H := out_step H (by assumption))); have H := Option.some.inj H; subst H))
    | constructor
def G48 : Env := G47.add 29 [] spec_DrawIsCleared.S
theorem G48_ok : EnvOk Try.prog G48 := G47_ok.add ent_29 fun ar h r h1 ⟨a0, y, hy, e1, e2, e3, e4⟩ => by
  subst e3 e4; exact (spec_DrawIsCleared.spec a0 y hy).le e1 e2
attribute [local irreducible] spec_DrawIsCleared

end Go.Proofs.Ytpopcdnjnligiaa
