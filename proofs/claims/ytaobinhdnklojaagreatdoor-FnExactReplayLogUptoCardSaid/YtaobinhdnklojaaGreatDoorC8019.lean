/-
  Contracts, printed by a program.
-/
import Derived.Test.YtaobinhdnklojaaGreatDoorC8014
namespace Go.Proofs.YtaobinhdnklojaaGreatDoor
open Go.RowKit
set_option maxHeartbeats 100000000
set_option maxRecDepth 100000
attribute [local irreducible] Ob loopwp Sub Spec Fin Again CallW CutC KOb iter

attribute [local irreducible] spec_l1Num_f impl_within impl_IsRopeway slices_Concat___impl_Slot_impl_Slot_ slices_IndexFunc___impl_Slot_impl_Slot__i2 impl_Ropeway_cabinAt impl_Ropeway_stationOf slices_IndexFunc___impl_Slot_impl_Slot__i3

noncomputable def slices_ContainsFunc___impl_Slot_impl_Slot__i2 (a0 : (List Slot)) : Option (Bool) :=
  ((slices_IndexFunc___impl_Slot_impl_Slot__i3 a0).bind fun y1 => (some (decide ((0 : Int) ≤ y1))))
def slices_ContainsFunc___impl_Slot_impl_Slot__i2.res (_ : (List Slot)) (y : Bool) : AV := (.bl y)
def slices_ContainsFunc___impl_Slot_impl_Slot__i2.out (_ : (List Slot)) (_ : Bool) : List (Option LB) := []
def slices_ContainsFunc___impl_Slot_impl_Slot__i2.S (ar : List AV) (h : List (Option LB)) (r : AV) (h1 : List (Option LB)) : Prop := ∃ a0 y, slices_ContainsFunc___impl_Slot_impl_Slot__i2 a0 = some y ∧ leL ar [(.tree ty_Slot a0), (.fn 160 [])] ∧ leH h [] ∧ r = slices_ContainsFunc___impl_Slot_impl_Slot__i2.res a0 y ∧ h1 = slices_ContainsFunc___impl_Slot_impl_Slot__i2.out a0 y
theorem slices_ContainsFunc___impl_Slot_impl_Slot__i2.call {ar h a0 y} (H : slices_ContainsFunc___impl_Slot_impl_Slot__i2 a0 = some y) (h0 : leLk ar [(.tree ty_Slot a0), (.fn 160 [])] (leHk h [])) : slices_ContainsFunc___impl_Slot_impl_Slot__i2.S ar h (slices_ContainsFunc___impl_Slot_impl_Slot__i2.res a0 y) (slices_ContainsFunc___impl_Slot_impl_Slot__i2.out a0 y) := ⟨a0, y, H, (args_ok h0).1, (args_ok h0).2, rfl, rfl⟩
theorem slices_ContainsFunc___impl_Slot_impl_Slot__i2.spec (a0 y) (H : slices_ContainsFunc___impl_Slot_impl_Slot__i2 a0 = some y) : Spec Tryz.prog 125 [(.tree ty_Slot a0), (.fn 160 [])] [] (slices_ContainsFunc___impl_Slot_impl_Slot__i2.res a0 y) (slices_ContainsFunc___impl_Slot_impl_Slot__i2.out a0 y) := by
  refine spec_intro (G84_ok.at tok []) (ct := []) Tryz.func125 rfl (by kernel_rfl) (by kernel_rfl) rfl ?_
  repeat' first
    | ((with_reducible refine eqg ?_); exact rfl)
    | ((with_reducible refine KOb.mk ?_); kernel_rfl)
    | ((with_reducible intro h); (repeat first | replace H := grd_k H | replace H := out_step H ‹_›); first | replace H := cond_t h H | replace H := cond_f h H | exact absurd h (by decide) | skip)
    | ((with_reducible refine Ob.mk ?_); first | (with_reducible rfl) | (first | ((repeat (first | (with_reducible exact grd_p H) | replace H := grd_k H | replace H := out_step H ‹_›)); done) | rfl | ((repeat (first | exact grd_p H | (have hp := grd_p H; exact hp) | replace H := grd_k H | replace H := out_step H ‹_› | (replace H := bind_some H; obtain ⟨_, _, H⟩ := H))); done) | (repeat (first | exact grd_p H | replace H := grd_k H | replace H := out_step H ‹_›))))
    | (with_reducible exact True.intro)
    | ((conv => whnf); first
        | (with_reducible refine And.intro ?_ ?_)
        | (with_reducible exact True.intro)
        | (with_reducible refine (?_ : Ob _))
        | ((with_reducible refine CallW.mk ?_); (repeat first | replace H := grd_k H | replace H := out_step H ‹_›); replace H := bind_some H; obtain ⟨y, hy, H⟩ := H; first | ((with_reducible have hz : slices_IndexFunc___impl_Slot_impl_Slot__i3 _ = some y := hy); clear hz; refine Exists.intro _ (Exists.intro _ ⟨Or.inl (slices_IndexFunc___impl_Slot_impl_Slot__i3.call hy ?_), rfl, rfl, ?_⟩)))
        | ((with_reducible refine fin_mk ?_); (repeat first | replace H := grd_k H | replace H := out_step H ‹_›); have H := Option.some.inj H; subst H))
    | constructor
  all_goals exact viewz _ _
def G85 : Env := G84.addOr 125 [] slices_ContainsFunc___impl_Slot_impl_Slot__i2.S
theorem G85_ok : EnvOk Tryz.prog G85 := G84_ok.addOr ent_125 fun ar h r h1 ⟨a0, y, hy, e1, e2, e3, e4⟩ => by
  subst e3 e4; exact (slices_ContainsFunc___impl_Slot_impl_Slot__i2.spec a0 y hy).le e1 e2
attribute [local irreducible] slices_ContainsFunc___impl_Slot_impl_Slot__i2

noncomputable def impl_Ropeway_act (a0 : Ropeway) (a1 : RopeStep) : Option ((Bool × Ropeway) ⊕ (Bool × Ropeway)) :=
  (cond (decide (a1.1 = (1 : Int))) (cond (!decide (a1.2.1 = a0.1)) (cond (!decide (a0.1 = (3 : Int))) (cond (!decide (a1.2.1 = (2 : Int))) ((some (Sum.inl (true, (a1.2.1, a0.2.1, a0.2.2.1, a0.2.2.2.1, a0.2.2.2.2.1, ()))))) ((some (Sum.inl ((decide (a0.1 = (1 : Int))), (a1.2.1, a0.2.1, a0.2.2.1, a0.2.2.2.1, a0.2.2.2.2.1, ())))))) (cond (decide (a1.2.1 = (0 : Int))) (cond (!decide (a1.2.1 = (2 : Int))) ((some (Sum.inl (true, (a1.2.1, a0.2.1, a0.2.2.1, a0.2.2.2.1, a0.2.2.2.2.1, ()))))) ((some (Sum.inl ((decide (a0.1 = (1 : Int))), (a1.2.1, a0.2.1, a0.2.2.1, a0.2.2.2.1, a0.2.2.2.2.1, ())))))) ((some (Sum.inl (false, (a1.2.1, a0.2.1, a0.2.2.1, a0.2.2.2.1, a0.2.2.2.2.1, ()))))))) ((some (Sum.inl (false, (a1.2.1, a0.2.1, a0.2.2.1, a0.2.2.2.1, a0.2.2.2.2.1, ())))))) (cond (decide (a1.1 = (2 : Int))) ((slices_ContainsFunc___impl_Slot_impl_Slot__i2 a0.2.1).bind fun y1 => ((grd (0 ≤ (w64 ((a0.2.1.length : Int) - (1 : Int))) ∧ (w64 ((a0.2.1.length : Int) - (1 : Int))) ≤ (a0.2.1.length : Int) ∧ (a0.2.1.length : Int) ≤ (a0.2.1.length : Int)) (grd (0 ≤ (0 : Int) ∧ (0 : Int) ≤ (w64 ((a0.2.1.length : Int) - (1 : Int))) ∧ (w64 ((a0.2.1.length : Int) - (1 : Int))) ≤ (a0.2.1.length : Int)) ((slices_Concat___impl_Slot_impl_Slot_ [((a0.2.1.drop ((w64 ((a0.2.1.length : Int) - (1 : Int))).toNat)).take (((a0.2.1.length : Int) - (w64 ((a0.2.1.length : Int) - (1 : Int)))).toNat)), ((a0.2.1.drop ((0 : Int).toNat)).take (((w64 ((a0.2.1.length : Int) - (1 : Int))) - (0 : Int)).toNat))]).bind fun y2 => (some ((Tg.mk : Tg 1), y1, y2))))).bind fun z3 => (cond (decide (a1.2.1 = (0 : Int))) (cond (!z3.2.1) (cond (decide (a0.1 = (1 : Int))) ((some (Sum.inr (true, (a0.1, z3.2.2, a0.2.2.1, a0.2.2.2.1, a0.2.2.2.2.1, ()))))) ((some (Sum.inr ((decide (a0.1 = (2 : Int))), (a0.1, z3.2.2, a0.2.2.1, a0.2.2.2.1, a0.2.2.2.2.1, ())))))) ((some (Sum.inr (false, (a0.1, z3.2.2, a0.2.2.1, a0.2.2.2.1, a0.2.2.2.2.1, ())))))) ((some (Sum.inr (false, (a0.1, z3.2.2, a0.2.2.1, a0.2.2.2.1, a0.2.2.2.2.1, ())))))))) (cond (decide (a1.1 = (3 : Int))) (cond (decide (a0.1 = (0 : Int))) ((impl_within a1.2.1 (1 : Int) (20 : Int)).bind fun y4 => (cond y4 (grd (0 ≤ (0 : Int) ∧ (0 : Int) < (a0.2.1.length : Int)) (cond (decide (((a0.2.1.getD ((0 : Int).toNat) d_Slot).1) = (0 : Int))) ((impl_Ropeway_cabinAt (a0.1, a0.2.1, a0.2.2.1, a0.2.2.2.1, a0.2.2.2.2.1, ()) a1.2.1).bind fun y5 => (grd (0 ≤ (0 : Int) ∧ (0 : Int) < (a0.2.1.length : Int)) ((some (Sum.inl ((decide (y5 < (0 : Int))), (a0.1, (a0.2.1.set ((0 : Int).toNat) (a1.2.1, false, (0 : Int), ())), a0.2.2.1, a0.2.2.2.1, a0.2.2.2.2.1, ()))))))) (grd (0 ≤ (0 : Int) ∧ (0 : Int) < (a0.2.1.length : Int)) ((some (Sum.inl (false, (a0.1, (a0.2.1.set ((0 : Int).toNat) (a1.2.1, false, (0 : Int), ())), a0.2.2.1, a0.2.2.2.1, a0.2.2.2.2.1, ())))))))) (grd (0 ≤ (0 : Int) ∧ (0 : Int) < (a0.2.1.length : Int)) ((some (Sum.inl (false, (a0.1, (a0.2.1.set ((0 : Int).toNat) (a1.2.1, false, (0 : Int), ())), a0.2.2.1, a0.2.2.2.1, a0.2.2.2.2.1, ())))))))) (grd (0 ≤ (0 : Int) ∧ (0 : Int) < (a0.2.1.length : Int)) ((some (Sum.inl (false, (a0.1, (a0.2.1.set ((0 : Int).toNat) (a1.2.1, false, (0 : Int), ())), a0.2.2.1, a0.2.2.2.1, a0.2.2.2.2.1, ()))))))) (cond (decide (a1.1 = (4 : Int))) (cond (decide (a1.2.1 = (0 : Int))) (cond (decide (a0.1 = (0 : Int))) (grd (0 ≤ (0 : Int) ∧ (0 : Int) < (a0.2.1.length : Int)) (cond (decide ((0 : Int) < ((a0.2.1.getD ((0 : Int).toNat) d_Slot).1))) (grd (0 ≤ (0 : Int) ∧ (0 : Int) < (a0.2.1.length : Int)) (grd (0 ≤ (0 : Int) ∧ (0 : Int) < (a0.2.1.length : Int)) ((some (Sum.inl ((decide (((a0.2.1.getD ((0 : Int).toNat) d_Slot).2.2.1) = (0 : Int))), (a0.1, (a0.2.1.set ((0 : Int).toNat) ((0 : Int), false, (0 : Int), ())), a0.2.2.1, a0.2.2.2.1, a0.2.2.2.2.1, ()))))))) (grd (0 ≤ (0 : Int) ∧ (0 : Int) < (a0.2.1.length : Int)) ((some (Sum.inl (false, (a0.1, (a0.2.1.set ((0 : Int).toNat) ((0 : Int), false, (0 : Int), ())), a0.2.2.1, a0.2.2.2.1, a0.2.2.2.2.1, ())))))))) (grd (0 ≤ (0 : Int) ∧ (0 : Int) < (a0.2.1.length : Int)) ((some (Sum.inl (false, (a0.1, (a0.2.1.set ((0 : Int).toNat) ((0 : Int), false, (0 : Int), ())), a0.2.2.1, a0.2.2.2.1, a0.2.2.2.2.1, ()))))))) (grd (0 ≤ (0 : Int) ∧ (0 : Int) < (a0.2.1.length : Int)) ((some (Sum.inl (false, (a0.1, (a0.2.1.set ((0 : Int).toNat) ((0 : Int), false, (0 : Int), ())), a0.2.2.1, a0.2.2.2.1, a0.2.2.2.2.1, ()))))))) ((impl_within a1.2.1 (0 : Int) (1 : Int)).bind fun y6 => (cond (!y6) ((some (Sum.inl (false, (a0.1, a0.2.1, a0.2.2.1, a0.2.2.2.1, a0.2.2.2.2.1, ()))))) ((impl_Ropeway_stationOf (a0.1, a0.2.1, a0.2.2.1, a0.2.2.2.1, a0.2.2.2.2.1, ()) a1.2.1).bind fun y7 => (grd (0 ≤ y7 ∧ y7 < (a0.2.1.length : Int)) (cond (decide (a1.1 = (7 : Int))) (cond (decide ((0 : Int) < (((a0.2.1.set y7.toNat ((a0.2.1.getD y7.toNat d_Slot).1, (!((a0.2.1.getD y7.toNat d_Slot).2.1)), (a0.2.1.getD y7.toNat d_Slot).2.2.1, ())).getD y7.toNat d_Slot).1))) ((some (Sum.inl ((!decide (a0.1 = (2 : Int))), (a0.1, (a0.2.1.set y7.toNat ((a0.2.1.getD y7.toNat d_Slot).1, (!((a0.2.1.getD y7.toNat d_Slot).2.1)), (a0.2.1.getD y7.toNat d_Slot).2.2.1, ())), a0.2.2.1, a0.2.2.2.1, a0.2.2.2.2.1, ()))))) ((some (Sum.inl (false, (a0.1, (a0.2.1.set y7.toNat ((a0.2.1.getD y7.toNat d_Slot).1, (!((a0.2.1.getD y7.toNat d_Slot).2.1)), (a0.2.1.getD y7.toNat d_Slot).2.2.1, ())), a0.2.2.1, a0.2.2.2.1, a0.2.2.2.2.1, ())))))) (cond (decide (a1.1 = (5 : Int))) ((cond (decide (a1.2.1 = (0 : Int))) ((some (y7.toNat, (w64 (a0.2.2.1 - (1 : Int))), a0.2.2.2.1))) ((some (y7.toNat, a0.2.2.1, (w64 (a0.2.2.2.1 - (1 : Int))))))).bind fun z8 => (cond (((a0.2.1.set z8.1 ((a0.2.1.getD z8.1 d_Slot).1, (a0.2.1.getD z8.1 d_Slot).2.1, (w64 (((a0.2.1.getD z8.1 d_Slot).2.2.1) + (1 : Int))), ())).getD z8.1 d_Slot).2.1) (cond (decide (a1.2.1 = (1 : Int))) ((some (Sum.inl (true, (a0.1, (a0.2.1.set z8.1 ((a0.2.1.getD z8.1 d_Slot).1, (a0.2.1.getD z8.1 d_Slot).2.1, (w64 (((a0.2.1.getD z8.1 d_Slot).2.2.1) + (1 : Int))), ())), z8.2.1, z8.2.2, a0.2.2.2.2.1, ()))))) ((some (Sum.inl ((!decide (a0.1 = (3 : Int))), (a0.1, (a0.2.1.set z8.1 ((a0.2.1.getD z8.1 d_Slot).1, (a0.2.1.getD z8.1 d_Slot).2.1, (w64 (((a0.2.1.getD z8.1 d_Slot).2.2.1) + (1 : Int))), ())), z8.2.1, z8.2.2, a0.2.2.2.2.1, ())))))) ((some (Sum.inl (false, (a0.1, (a0.2.1.set z8.1 ((a0.2.1.getD z8.1 d_Slot).1, (a0.2.1.getD z8.1 d_Slot).2.1, (w64 (((a0.2.1.getD z8.1 d_Slot).2.2.1) + (1 : Int))), ())), z8.2.1, z8.2.2, a0.2.2.2.2.1, ()))))))) (cond (decide (a1.1 = (6 : Int))) (cond (decide (a1.2.1 = (0 : Int))) ((some (Sum.inl ((((a0.2.1.set y7.toNat ((a0.2.1.getD y7.toNat d_Slot).1, (a0.2.1.getD y7.toNat d_Slot).2.1, (w64 (((a0.2.1.getD y7.toNat d_Slot).2.2.1) - (1 : Int))), ())).getD y7.toNat d_Slot).2.1), (a0.1, (a0.2.1.set y7.toNat ((a0.2.1.getD y7.toNat d_Slot).1, (a0.2.1.getD y7.toNat d_Slot).2.1, (w64 (((a0.2.1.getD y7.toNat d_Slot).2.2.1) - (1 : Int))), ())), a0.2.2.1, a0.2.2.2.1, (w64 (a0.2.2.2.2.1 + (1 : Int))), ()))))) ((some (Sum.inl ((((a0.2.1.set y7.toNat ((a0.2.1.getD y7.toNat d_Slot).1, (a0.2.1.getD y7.toNat d_Slot).2.1, (w64 (((a0.2.1.getD y7.toNat d_Slot).2.2.1) - (1 : Int))), ())).getD y7.toNat d_Slot).2.1), (a0.1, (a0.2.1.set y7.toNat ((a0.2.1.getD y7.toNat d_Slot).1, (a0.2.1.getD y7.toNat d_Slot).2.1, (w64 (((a0.2.1.getD y7.toNat d_Slot).2.2.1) - (1 : Int))), ())), a0.2.2.1, (w64 (a0.2.2.2.1 + (1 : Int))), a0.2.2.2.2.1, ())))))) ((some (Sum.inl (false, (a0.1, a0.2.1, a0.2.2.1, a0.2.2.2.1, a0.2.2.2.2.1, ()))))))))))))))))
def impl_Ropeway_act.res (_ : Ropeway) (_ : RopeStep) (y : (Bool × Ropeway) ⊕ (Bool × Ropeway)) : AV := match y with
  | (.inl y) => (.bl y.1)
  | (.inr y) => (.bl y.1)
def impl_Ropeway_act.out (_ : Ropeway) (_ : RopeStep) (y : (Bool × Ropeway) ⊕ (Bool × Ropeway)) : List (Option LB) := match y with
  | (.inl y) => [some (.box 38 [(.v (.int .i64 y.2.1)), (.own 1), (.v (.int .i64 y.2.2.2.1)), (.v (.int .i64 y.2.2.2.2.1)), (.v (.int .i64 y.2.2.2.2.2.1))]), some (.arr 96 ty_Slot y.2.2.1)]
  | (.inr y) => [some (.box 38 [(.v (.int .i64 y.2.1)), (.own 2), (.v (.int .i64 y.2.2.2.1)), (.v (.int .i64 y.2.2.2.2.1)), (.v (.int .i64 y.2.2.2.2.2.1))]), none, some (.arr 96 ty_Slot y.2.2.1)]
def impl_Ropeway_act.S (ar : List AV) (h : List (Option LB)) (r : AV) (h1 : List (Option LB)) : Prop := ∃ a0 a1 y, impl_Ropeway_act a0 a1 = some y ∧ leL ar [(.loc 0 0 0), (.agg [(.v (.int .i64 a1.1)), (.v (.int .i64 a1.2.1))])] ∧ leH h [some (.box 38 [(.v (.int .i64 a0.1)), (.own 1), (.v (.int .i64 a0.2.2.1)), (.v (.int .i64 a0.2.2.2.1)), (.v (.int .i64 a0.2.2.2.2.1))]), some (.arr 96 ty_Slot a0.2.1)] ∧ r = impl_Ropeway_act.res a0 a1 y ∧ h1 = impl_Ropeway_act.out a0 a1 y
theorem impl_Ropeway_act.call {ar h a0 a1 y} (H : impl_Ropeway_act a0 a1 = some y) (h0 : leLk ar [(.loc 0 0 0), (.agg [(.v (.int .i64 a1.1)), (.v (.int .i64 a1.2.1))])] (leHk h [some (.box 38 [(.v (.int .i64 a0.1)), (.own 1), (.v (.int .i64 a0.2.2.1)), (.v (.int .i64 a0.2.2.2.1)), (.v (.int .i64 a0.2.2.2.2.1))]), some (.arr 96 ty_Slot a0.2.1)])) : impl_Ropeway_act.S ar h (impl_Ropeway_act.res a0 a1 y) (impl_Ropeway_act.out a0 a1 y) := ⟨a0, a1, y, H, (args_ok h0).1, (args_ok h0).2, rfl, rfl⟩
theorem impl_Ropeway_act.spec (a0 a1 y) (H : impl_Ropeway_act a0 a1 = some y) : Spec Tryz.prog 129 [(.loc 0 0 0), (.agg [(.v (.int .i64 a1.1)), (.v (.int .i64 a1.2.1))])] [some (.box 38 [(.v (.int .i64 a0.1)), (.own 1), (.v (.int .i64 a0.2.2.1)), (.v (.int .i64 a0.2.2.2.1)), (.v (.int .i64 a0.2.2.2.2.1))]), some (.arr 96 ty_Slot a0.2.1)] (impl_Ropeway_act.res a0 a1 y) (impl_Ropeway_act.out a0 a1 y) := by
  have hlen : Nat.ble ([some (.box 38 [(.v (.int .i64 a0.1)), (.own 1), (.v (.int .i64 a0.2.2.1)), (.v (.int .i64 a0.2.2.2.1)), (.v (.int .i64 a0.2.2.2.2.1))]), some (.arr 96 ty_Slot a0.2.1)] : List (Option LB)).length (impl_Ropeway_act.out a0 a1 y).length = true := by
    rcases y with y | y <;> rfl
  refine spec_intro (G85_ok.at tok []) (ct := [(10, none), (30, none), (5, some [0, 3, 6, 34, 35, 36, 37, 38, 39, 40, 43, 44, 45, 46, 47, 48, 49]), (8, some [0, 3, 5, 17, 51, 81, 82, 85, 86, 87, 88, 89, 90, 91, 92, 93, 94, 95, 96, 106, 107, 108, 111, 112, 113, 114, 115, 116, 117, 118, 121, 122, 123, 124, 125, 126, 127, 144, 145, 146, 147, 148, 151, 152, 153, 154, 155, 156, 157, 158, 161, 162, 163, 164, 165, 166, 167, 168, 210, 211, 212, 213, 214, 247, 248, 249, 250, 251, 252, 253, 254, 255, 256]), (13, some [0, 3, 8]), (17, some [0, 9]), (19, some [0, 3, 210, 211, 212, 213, 214, 247, 248, 249, 250, 251, 252, 253, 254, 255, 256]), (22, some [0, 3, 10, 210, 211, 212, 213, 214, 247, 248, 249, 250, 251, 252, 253, 254, 255, 256]), (36, some [10]), (38, some [])]) Tryz.func129 rfl (by kernel_rfl) (by kernel_rfl) hlen ?_
  repeat' first
    | ((with_reducible refine eqg ?_); exact rfl)
    | ((with_reducible refine KOb.mk ?_); kernel_rfl)
    | ((with_reducible intro h); (repeat first | replace H := grd_k H | replace H := out_step H ‹_›); first | replace H := cond_t h H | replace H := cond_f h H | exact absurd h (by decide) | skip)
    | ((with_reducible refine Ob.mk ?_); first | (with_reducible rfl) | (first | ((repeat (first | (with_reducible exact grd_p H) | replace H := grd_k H | replace H := out_step H ‹_›)); done) | rfl | ((repeat (first | exact grd_p H | (have hp := grd_p H; exact hp) | replace H := grd_k H | replace H := out_step H ‹_› | (replace H := bind_some H; obtain ⟨_, _, H⟩ := H))); done) | (repeat (first | exact grd_p H | replace H := grd_k H | replace H := out_step H ‹_›))))
    | (with_reducible exact True.intro)
    | ((conv => whnf); first
        | (with_reducible refine And.intro ?_ ?_)
        | (with_reducible exact True.intro)
        | (with_reducible refine (?_ : Ob _))
        | ((with_reducible refine CallW.mk ?_); (repeat first | replace H := grd_k H | replace H := out_step H ‹_›); replace H := bind_some H; obtain ⟨y, hy, H⟩ := H; first | ((with_reducible have hz : slices_ContainsFunc___impl_Slot_impl_Slot__i2 _ = some y := hy); clear hz; refine Exists.intro _ (Exists.intro _ ⟨Or.inl (slices_ContainsFunc___impl_Slot_impl_Slot__i2.call hy ?_), rfl, rfl, ?_⟩)) | ((with_reducible have hz : slices_Concat___impl_Slot_impl_Slot_ _ = some y := hy); clear hz; refine ⟨_, _, slices_Concat___impl_Slot_impl_Slot_.call hy ?_, rfl, rfl, ?_⟩) | ((with_reducible have hz : impl_within _ _ _ = some y := hy); clear hz; refine ⟨_, _, impl_within.call hy ?_, rfl, rfl, ?_⟩) | ((with_reducible have hz : impl_Ropeway_cabinAt _ _ = some y := hy); clear hz; refine ⟨_, _, impl_Ropeway_cabinAt.call hy ?_, rfl, rfl, ?_⟩) | ((with_reducible have hz : impl_Ropeway_stationOf _ _ = some y := hy); clear hz; refine ⟨_, _, impl_Ropeway_stationOf.call hy ?_, rfl, rfl, ?_⟩))
        | ((with_reducible refine cutAt (id := 10) ?_); (repeat first | replace H := grd_k H | replace H := out_step H ‹_›); first | (replace H := bind_some H; obtain ⟨z, hz, H⟩ := H; have hT : Tg 1 × Bool × (List Slot) := z; clear hT; refine CutC.mk (id := 10) ⟨sl [(0, (.loc 0 0 0)), (3, (.loc 2 0 0)), (7, (.bl z.2.1))], [some (.box 38 [(.v (.int .i64 a0.1)), (.own 3), (.v (.int .i64 a0.2.2.1)), (.v (.int .i64 a0.2.2.2.1)), (.v (.int .i64 a0.2.2.2.2.1))]), none, some (.box 120 [(.v (.int .i64 a1.1)), (.v (.int .i64 a1.2.1))]), some (.arr 96 ty_Slot z.2.2)]⟩ ?_ ?_; (replace H := hz)))
        | ((with_reducible refine cutAt (id := 30) ?_); (repeat first | replace H := grd_k H | replace H := out_step H ‹_›); first | (replace H := bind_some H; obtain ⟨z, hz, H⟩ := H; refine CutC.mk (id := 30) ⟨sl [(0, (.loc 0 0 0)), (3, (.loc 2 0 0)), (10, (.loc 1 z.1 0))], [some (.box 38 [(.v (.int .i64 a0.1)), (.own 1), (.v (.int .i64 z.2.1)), (.v (.int .i64 z.2.2)), (.v (.int .i64 a0.2.2.2.2.1))]), some (.arr 96 ty_Slot a0.2.1), some (.box 120 [(.v (.int .i64 a1.1)), (.v (.int .i64 a1.2.1))])]⟩ ?_ ?_; (replace H := hz)))
        | ((repeat first | replace H := grd_k H | replace H := out_step H ‹_›); have H := Option.some.inj H; subst H; with_reducible refine sub_auto ?_)
        | ((with_reducible refine fin_mk ?_); (repeat first | replace H := grd_k H | replace H := out_step H ‹_›); have H := Option.some.inj H; subst H))
    | constructor
def G86 : Env := G85.add 129 [true] impl_Ropeway_act.S
theorem G86_ok : EnvOk Tryz.prog G86 := G85_ok.add ent_129 fun ar h r h1 ⟨a0, a1, y, hy, e1, e2, e3, e4⟩ => by
  subst e3 e4; exact (impl_Ropeway_act.spec a0 a1 y hy).le e1 e2
attribute [local irreducible] impl_Ropeway_act

noncomputable def slices_Clone___impl_Slot_impl_Slot__i1 (a100 : (List Slot)) : Option ((List Slot)) :=
  (grd (0 < a100.length) (grd (([] : List Slot).length + a100.length ≤ 140737488355328 / 24 ∧ ([] : List Slot).length + a100.length ≤ 140737488355328) ((some (([] : List Slot) ++ a100)))))
def slices_Clone___impl_Slot_impl_Slot__i1.res (_ : (List Slot)) (_ : (List Slot)) : AV := (.own 0)
def slices_Clone___impl_Slot_impl_Slot__i1.out (_ : (List Slot)) (y : (List Slot)) : List (Option LB) := [some (.arr 96 ty_Slot y)]
def slices_Clone___impl_Slot_impl_Slot__i1.S (ar : List AV) (h : List (Option LB)) (r : AV) (h1 : List (Option LB)) : Prop := ∃ a100 y, slices_Clone___impl_Slot_impl_Slot__i1 a100 = some y ∧ leL ar [(.tree ty_Slot a100)] ∧ leH h [] ∧ r = slices_Clone___impl_Slot_impl_Slot__i1.res a100 y ∧ h1 = slices_Clone___impl_Slot_impl_Slot__i1.out a100 y
theorem slices_Clone___impl_Slot_impl_Slot__i1.call {ar h a100 y} (H : slices_Clone___impl_Slot_impl_Slot__i1 a100 = some y) (h0 : leLk ar [(.tree ty_Slot a100)] (leHk h [])) : slices_Clone___impl_Slot_impl_Slot__i1.S ar h (slices_Clone___impl_Slot_impl_Slot__i1.res a100 y) (slices_Clone___impl_Slot_impl_Slot__i1.out a100 y) := ⟨a100, y, H, (args_ok h0).1, (args_ok h0).2, rfl, rfl⟩
theorem slices_Clone___impl_Slot_impl_Slot__i1.spec (a100 y) (H : slices_Clone___impl_Slot_impl_Slot__i1 a100 = some y) : Spec Tryz.prog 84 [(.tree ty_Slot a100)] [] (slices_Clone___impl_Slot_impl_Slot__i1.res a100 y) (slices_Clone___impl_Slot_impl_Slot__i1.out a100 y) := by
  refine spec_intro (G86_ok.at tok []) (ct := []) Tryz.func84 rfl (by kernel_rfl) (by kernel_rfl) rfl ?_
  repeat' first
    | ((with_reducible refine eqg ?_); exact rfl)
    | ((with_reducible refine KOb.mk ?_); kernel_rfl)
    | ((with_reducible intro h); (repeat first | replace H := grd_k H | replace H := out_step H ‹_›); first | replace H := cond_t h H | replace H := cond_f h H | exact absurd h (by decide) | skip)
    | ((with_reducible refine Ob.mk ?_); first | (with_reducible rfl) | (first | ((repeat (first | (with_reducible exact grd_p H) | replace H := grd_k H | replace H := out_step H ‹_›)); done) | rfl | ((repeat (first | exact grd_p H | (have hp := grd_p H; exact hp) | replace H := grd_k H | replace H := out_step H ‹_› | (replace H := bind_some H; obtain ⟨_, _, H⟩ := H))); done) | (repeat (first | exact grd_p H | replace H := grd_k H | replace H := out_step H ‹_›))))
    | (with_reducible exact True.intro)
    | ((conv => whnf); first
        | (with_reducible refine And.intro ?_ ?_)
        | (with_reducible exact True.intro)
        | (with_reducible refine (?_ : Ob _))
        | ((with_reducible refine fin_mk ?_); (repeat first | replace H := grd_k H | replace H := out_step H ‹_›); have H := Option.some.inj H; subst H))
    | constructor
  all_goals exact viewz _ _
def G87 : Env := G86.addOr 84 [true] slices_Clone___impl_Slot_impl_Slot__i1.S
theorem G87_ok : EnvOk Tryz.prog G87 := G86_ok.addOr ent_84 fun ar h r h1 ⟨a100, y, hy, e1, e2, e3, e4⟩ => by
  subst e3 e4; exact (slices_Clone___impl_Slot_impl_Slot__i1.spec a100 y hy).le e1 e2
attribute [local irreducible] slices_Clone___impl_Slot_impl_Slot__i1

noncomputable def impl_copyRopeway_i1 (a100 : Int) (a101 : (List Slot)) (a102 : Int) (a103 : Int) (a104 : Int) : Option (Ropeway) :=
  ((slices_Clone___impl_Slot_impl_Slot__i1 a101).bind fun y1 => (some (a100, y1, a102, a103, a104, ())))
def impl_copyRopeway_i1.res (_ : Int) (_ : (List Slot)) (_ : Int) (_ : Int) (_ : Int) (y : Ropeway) : AV := (.agg [(.v (.int .i64 y.1)), (.own 0), (.v (.int .i64 y.2.2.1)), (.v (.int .i64 y.2.2.2.1)), (.v (.int .i64 y.2.2.2.2.1))])
def impl_copyRopeway_i1.out (_ : Int) (_ : (List Slot)) (_ : Int) (_ : Int) (_ : Int) (y : Ropeway) : List (Option LB) := [some (.arr 96 ty_Slot y.2.1)]
def impl_copyRopeway_i1.S (ar : List AV) (h : List (Option LB)) (r : AV) (h1 : List (Option LB)) : Prop := ∃ a100 a101 a102 a103 a104 y, impl_copyRopeway_i1 a100 a101 a102 a103 a104 = some y ∧ leL ar [(.agg [(.v (.int .i64 a100)), (.tree ty_Slot a101), (.v (.int .i64 a102)), (.v (.int .i64 a103)), (.v (.int .i64 a104))])] ∧ leH h [] ∧ r = impl_copyRopeway_i1.res a100 a101 a102 a103 a104 y ∧ h1 = impl_copyRopeway_i1.out a100 a101 a102 a103 a104 y
theorem impl_copyRopeway_i1.call {ar h a100 a101 a102 a103 a104 y} (H : impl_copyRopeway_i1 a100 a101 a102 a103 a104 = some y) (h0 : leLk ar [(.agg [(.v (.int .i64 a100)), (.tree ty_Slot a101), (.v (.int .i64 a102)), (.v (.int .i64 a103)), (.v (.int .i64 a104))])] (leHk h [])) : impl_copyRopeway_i1.S ar h (impl_copyRopeway_i1.res a100 a101 a102 a103 a104 y) (impl_copyRopeway_i1.out a100 a101 a102 a103 a104 y) := ⟨a100, a101, a102, a103, a104, y, H, (args_ok h0).1, (args_ok h0).2, rfl, rfl⟩
theorem impl_copyRopeway_i1.spec (a100 a101 a102 a103 a104 y) (H : impl_copyRopeway_i1 a100 a101 a102 a103 a104 = some y) : Spec Tryz.prog 45 [(.agg [(.v (.int .i64 a100)), (.tree ty_Slot a101), (.v (.int .i64 a102)), (.v (.int .i64 a103)), (.v (.int .i64 a104))])] [] (impl_copyRopeway_i1.res a100 a101 a102 a103 a104 y) (impl_copyRopeway_i1.out a100 a101 a102 a103 a104 y) := by
  refine spec_intro (G87_ok.at tok []) (ct := []) Tryz.func45 rfl (by kernel_rfl) (by kernel_rfl) rfl ?_
  repeat' first
    | ((with_reducible refine eqg ?_); exact rfl)
    | ((with_reducible refine KOb.mk ?_); kernel_rfl)
    | ((with_reducible intro h); (repeat first | replace H := grd_k H | replace H := out_step H ‹_›); first | replace H := cond_t h H | replace H := cond_f h H | exact absurd h (by decide) | skip)
    | ((with_reducible refine Ob.mk ?_); first | (with_reducible rfl) | (first | ((repeat (first | (with_reducible exact grd_p H) | replace H := grd_k H | replace H := out_step H ‹_›)); done) | rfl | ((repeat (first | exact grd_p H | (have hp := grd_p H; exact hp) | replace H := grd_k H | replace H := out_step H ‹_› | (replace H := bind_some H; obtain ⟨_, _, H⟩ := H))); done) | (repeat (first | exact grd_p H | replace H := grd_k H | replace H := out_step H ‹_›))))
    | (with_reducible exact True.intro)
    | ((conv => whnf); first
        | (with_reducible refine And.intro ?_ ?_)
        | (with_reducible exact True.intro)
        | (with_reducible refine (?_ : Ob _))
        | ((with_reducible refine CallW.mk ?_); (repeat first | replace H := grd_k H | replace H := out_step H ‹_›); replace H := bind_some H; obtain ⟨y, hy, H⟩ := H; first | ((with_reducible have hz : slices_Clone___impl_Slot_impl_Slot__i1 _ = some y := hy); clear hz; refine Exists.intro _ (Exists.intro _ ⟨Or.inl (slices_Clone___impl_Slot_impl_Slot__i1.call hy ?_), rfl, rfl, ?_⟩)))
        | ((with_reducible refine fin_mk ?_); (repeat first | replace H := grd_k H | replace H := out_step H ‹_›); have H := Option.some.inj H; subst H))
    | constructor
def G88 : Env := G87.addOr 45 [true] impl_copyRopeway_i1.S
theorem G88_ok : EnvOk Tryz.prog G88 := G87_ok.addOr ent_45 fun ar h r h1 ⟨a100, a101, a102, a103, a104, y, hy, e1, e2, e3, e4⟩ => by
  subst e3 e4; exact (impl_copyRopeway_i1.spec a100 a101 a102 a103 a104 y hy).le e1 e2
attribute [local irreducible] impl_copyRopeway_i1

noncomputable def impl_Ropeway_step (a0 : Ropeway) (a1 : RopeStep) : Option ((Ropeway) ⊕ (Ropeway)) :=
  ((impl_copyRopeway_i1 a0.1 a0.2.1 a0.2.2.1 a0.2.2.2.1 a0.2.2.2.2.1).bind fun y1 => ((impl_Ropeway_act (y1.1, y1.2.1, y1.2.2.1, y1.2.2.2.1, y1.2.2.2.2.1, ()) (a1.1, a1.2.1, ())).bind (Sum.elim (fun y3 => (cond (!y3.1) ((some (Sum.inl ((0 : Int), [], (0 : Int), (0 : Int), (0 : Int), ())))) ((impl_IsRopeway (y3.2.1, y3.2.2.1, y3.2.2.2.1, y3.2.2.2.2.1, y3.2.2.2.2.2.1, ())).bind fun y4 => (cond (!y4) ((some (Sum.inl ((0 : Int), [], (0 : Int), (0 : Int), (0 : Int), ())))) ((some (Sum.inr (y3.2.1, y3.2.2.1, y3.2.2.2.1, y3.2.2.2.2.1, y3.2.2.2.2.2.1, ())))))))) (fun y5 => (cond (!y5.1) ((some (Sum.inl ((0 : Int), [], (0 : Int), (0 : Int), (0 : Int), ())))) ((impl_IsRopeway (y5.2.1, y5.2.2.1, y5.2.2.2.1, y5.2.2.2.2.1, y5.2.2.2.2.2.1, ())).bind fun y6 => (cond (!y6) ((some (Sum.inl ((0 : Int), [], (0 : Int), (0 : Int), (0 : Int), ())))) ((some (Sum.inr (y5.2.1, y5.2.2.1, y5.2.2.2.1, y5.2.2.2.2.1, y5.2.2.2.2.2.1, ())))))))))))
def impl_Ropeway_step.res (_ : Ropeway) (_ : RopeStep) (y : (Ropeway) ⊕ (Ropeway)) : AV := match y with
  | (.inl y) => (.tup [(.agg [(.v (.int .i64 y.1)), (.v (.slice none 0 0)), (.v (.int .i64 y.2.2.1)), (.v (.int .i64 y.2.2.2.1)), (.v (.int .i64 y.2.2.2.2.1))]), (.v (.bool false))])
  | (.inr y) => (.tup [(.agg [(.v (.int .i64 y.1)), (.own 0), (.v (.int .i64 y.2.2.1)), (.v (.int .i64 y.2.2.2.1)), (.v (.int .i64 y.2.2.2.2.1))]), (.v (.bool true))])
def impl_Ropeway_step.out (_ : Ropeway) (_ : RopeStep) (y : (Ropeway) ⊕ (Ropeway)) : List (Option LB) := match y with
  | (.inl _) => []
  | (.inr y) => [some (.arr 96 ty_Slot y.2.1)]
def impl_Ropeway_step.S (ar : List AV) (h : List (Option LB)) (r : AV) (h1 : List (Option LB)) : Prop := ∃ a0 a1 y, impl_Ropeway_step a0 a1 = some y ∧ leL ar [(.agg [(.v (.int .i64 a0.1)), (.tree ty_Slot a0.2.1), (.v (.int .i64 a0.2.2.1)), (.v (.int .i64 a0.2.2.2.1)), (.v (.int .i64 a0.2.2.2.2.1))]), (.agg [(.v (.int .i64 a1.1)), (.v (.int .i64 a1.2.1))])] ∧ leH h [] ∧ r = impl_Ropeway_step.res a0 a1 y ∧ h1 = impl_Ropeway_step.out a0 a1 y
theorem impl_Ropeway_step.call {ar h a0 a1 y} (H : impl_Ropeway_step a0 a1 = some y) (h0 : leLk ar [(.agg [(.v (.int .i64 a0.1)), (.tree ty_Slot a0.2.1), (.v (.int .i64 a0.2.2.1)), (.v (.int .i64 a0.2.2.2.1)), (.v (.int .i64 a0.2.2.2.2.1))]), (.agg [(.v (.int .i64 a1.1)), (.v (.int .i64 a1.2.1))])] (leHk h [])) : impl_Ropeway_step.S ar h (impl_Ropeway_step.res a0 a1 y) (impl_Ropeway_step.out a0 a1 y) := ⟨a0, a1, y, H, (args_ok h0).1, (args_ok h0).2, rfl, rfl⟩
theorem impl_Ropeway_step.spec (a0 a1 y) (H : impl_Ropeway_step a0 a1 = some y) : Spec Tryz.prog 89 [(.agg [(.v (.int .i64 a0.1)), (.tree ty_Slot a0.2.1), (.v (.int .i64 a0.2.2.1)), (.v (.int .i64 a0.2.2.2.1)), (.v (.int .i64 a0.2.2.2.2.1))]), (.agg [(.v (.int .i64 a1.1)), (.v (.int .i64 a1.2.1))])] [] (impl_Ropeway_step.res a0 a1 y) (impl_Ropeway_step.out a0 a1 y) := by
  have hlen : Nat.ble ([] : List (Option LB)).length (impl_Ropeway_step.out a0 a1 y).length = true := by
    rcases y with y | y <;> rfl
  refine spec_intro (G88_ok.at tok []) (ct := [(3, some [4, 6, 16])]) Tryz.func89 rfl (by kernel_rfl) (by kernel_rfl) hlen ?_
  repeat' first
    | ((with_reducible refine eqg ?_); exact rfl)
    | ((with_reducible refine KOb.mk ?_); kernel_rfl)
    | ((with_reducible intro h); (repeat first | replace H := grd_k H | replace H := out_step H ‹_›); first | replace H := cond_t h H | replace H := cond_f h H | exact absurd h (by decide) | skip)
    | ((with_reducible refine Ob.mk ?_); first | (with_reducible rfl) | (first | ((repeat (first | (with_reducible exact grd_p H) | replace H := grd_k H | replace H := out_step H ‹_›)); done) | rfl | ((repeat (first | exact grd_p H | (have hp := grd_p H; exact hp) | replace H := grd_k H | replace H := out_step H ‹_› | (replace H := bind_some H; obtain ⟨_, _, H⟩ := H))); done) | (repeat (first | exact grd_p H | replace H := grd_k H | replace H := out_step H ‹_›))))
    | (with_reducible exact True.intro)
    | ((conv => whnf); first
        | (with_reducible refine And.intro ?_ ?_)
        | (with_reducible exact True.intro)
        | (with_reducible refine (?_ : Ob _))
        | ((with_reducible refine CallW.mk ?_); (repeat first | replace H := grd_k H | replace H := out_step H ‹_›); replace H := bind_some H; obtain ⟨y, hy, H⟩ := H; first | ((with_reducible have hz : impl_copyRopeway_i1 _ _ _ _ _ = some y := hy); clear hz; refine Exists.intro _ (Exists.intro _ ⟨Or.inl (impl_copyRopeway_i1.call hy ?_), rfl, rfl, ?_⟩)) | ((with_reducible have hz : impl_Ropeway_act _ _ = some y := hy); clear hz; rcases y with y | y <;> refine ⟨_, _, impl_Ropeway_act.call hy ?_, rfl, rfl, ?_⟩) | ((with_reducible have hz : impl_IsRopeway _ = some y := hy); clear hz; refine ⟨_, _, impl_IsRopeway.call hy ?_, rfl, rfl, ?_⟩))
        | ((with_reducible refine fin_mk ?_); (repeat first | replace H := grd_k H | replace H := out_step H ‹_›); have H := Option.some.inj H; subst H))
    | constructor
def G89 : Env := G88.add 89 [] impl_Ropeway_step.S
theorem G89_ok : EnvOk Tryz.prog G89 := G88_ok.add ent_89 fun ar h r h1 ⟨a0, a1, y, hy, e1, e2, e3, e4⟩ => by
  subst e3 e4; exact (impl_Ropeway_step.spec a0 a1 y hy).le e1 e2
attribute [local irreducible] impl_Ropeway_step

noncomputable def strings_Join (a0 : (List ByteArray)) (a1 : ByteArray) : Option (ByteArray) :=
  (grd ((joinB a0 a1).size ≤ 140737488355328) ((some (joinB a0 a1))))
def strings_Join.res (_ : (List ByteArray)) (_ : ByteArray) (y : ByteArray) : AV := (.v (.string y))
def strings_Join.out (_ : (List ByteArray)) (_ : ByteArray) (_ : ByteArray) : List (Option LB) := []
def strings_Join.S (ar : List AV) (h : List (Option LB)) (r : AV) (h1 : List (Option LB)) : Prop := ∃ a0 a1 y, strings_Join a0 a1 = some y ∧ leL ar [(.tree .str a0), (.v (.string a1))] ∧ leH h [] ∧ r = strings_Join.res a0 a1 y ∧ h1 = strings_Join.out a0 a1 y
theorem strings_Join.call {ar h a0 a1 y} (H : strings_Join a0 a1 = some y) (h0 : leLk ar [(.tree .str a0), (.v (.string a1))] (leHk h [])) : strings_Join.S ar h (strings_Join.res a0 a1 y) (strings_Join.out a0 a1 y) := ⟨a0, a1, y, H, (args_ok h0).1, (args_ok h0).2, rfl, rfl⟩
theorem strings_Join.spec (a0 a1 y) (H : strings_Join a0 a1 = some y) : Spec Tryz.prog 62 [(.tree .str a0), (.v (.string a1))] [] (strings_Join.res a0 a1 y) (strings_Join.out a0 a1 y) := by
  have hg := grd_p H
  have H := Option.some.inj (grd_k H)
  subst H
  exact ext_strings_Join a0 a1 hg
def G90 : Env := G89.add 62 [] strings_Join.S
theorem G90_ok : EnvOk Tryz.prog G90 := G89_ok.add ent_62 fun ar h r h1 ⟨a0, a1, y, hy, e1, e2, e3, e4⟩ => by
  subst e3 e4; exact (strings_Join.spec a0 a1 y hy).le e1 e2
attribute [local irreducible] strings_Join

end Go.Proofs.YtaobinhdnklojaaGreatDoor
namespace Go.Proofs.YtaobinhdnklojaaGreatDoor
open Go.RowKit
set_option maxHeartbeats 100000000
set_option maxRecDepth 100000
attribute [local irreducible] Ob loopwp Sub Spec Fin Again CallW CutC KOb iter

attribute [local irreducible] spec_l1Num_f impl_IsRopeway strconv_Itoa slices_IndexFunc___impl_Slot_impl_Slot__i2 impl_Ropeway_cabinAt impl_Ropeway_stationOf slices_IndexFunc___impl_Slot_impl_Slot__i3 slices_ContainsFunc___impl_Slot_impl_Slot__i2 slices_Clone___impl_Slot_impl_Slot__i1 impl_copyRopeway_i1 strings_Join

noncomputable def impl_numbersText_loop1 (a0 : (List Int)) (v5 : Int) (v6 : (List ByteArray)) : Option (Lp (Int × (List ByteArray)) (((List ByteArray)))) :=
  (cond (decide (v5 < (a0.length : Int))) (grd (0 ≤ v5 ∧ v5 < (a0.length : Int)) ((strconv_Itoa (a0.getD v5.toNat 0)).bind fun y7 => (grd (v6.length + [y7].length ≤ 140737488355328 / 16 ∧ v6.length + [y7].length ≤ 140737488355328) (some (.go ((w64 (v5 + (1 : Int))), (v6 ++ [y7]))))))) ((some (.out v6))))
noncomputable def impl_numbersText (a0 : (List Int)) (a1 : ByteArray) : Option (ByteArray) :=
  ((iter (fun s => impl_numbersText_loop1 a0 s.1 s.2) ((0 : Int), ([] : List ByteArray))).bind (fun r8 => ((strings_Join r8 a1).bind fun y9 => (some y9))))
def impl_numbersText.res (_ : (List Int)) (_ : ByteArray) (y : ByteArray) : AV := (.v (.string y))
def impl_numbersText.out (_ : (List Int)) (_ : ByteArray) (_ : ByteArray) : List (Option LB) := []
def impl_numbersText.S (ar : List AV) (h : List (Option LB)) (r : AV) (h1 : List (Option LB)) : Prop := ∃ a0 a1 y, impl_numbersText a0 a1 = some y ∧ leL ar [(.tree (.int .i64) a0), (.v (.string a1))] ∧ leH h [] ∧ r = impl_numbersText.res a0 a1 y ∧ h1 = impl_numbersText.out a0 a1 y
theorem impl_numbersText.call {ar h a0 a1 y} (H : impl_numbersText a0 a1 = some y) (h0 : leLk ar [(.tree (.int .i64) a0), (.v (.string a1))] (leHk h [])) : impl_numbersText.S ar h (impl_numbersText.res a0 a1 y) (impl_numbersText.out a0 a1 y) := ⟨a0, a1, y, H, (args_ok h0).1, (args_ok h0).2, rfl, rfl⟩
theorem impl_numbersText.spec (a0 a1 y) (H : impl_numbersText a0 a1 = some y) : Spec Tryz.prog 163 [(.tree (.int .i64) a0), (.v (.string a1))] [] (impl_numbersText.res a0 a1 y) (impl_numbersText.out a0 a1 y) := by
  refine spec_intro (G90_ok.at tok []) (ct := []) Tryz.func163 rfl (by kernel_rfl) (by kernel_rfl) rfl ?_
  repeat' first
    | ((with_reducible refine eqg ?_); exact rfl)
    | ((with_reducible refine KOb.mk ?_); kernel_rfl)
    | ((with_reducible intro h); (repeat first | replace H := grd_k H | replace H := out_step H ‹_›); first | replace H := cond_t h H | replace H := cond_f h H | exact absurd h (by decide) | skip)
    | ((with_reducible refine Ob.mk ?_); first | (with_reducible rfl) | (first | ((repeat (first | (with_reducible exact grd_p H) | replace H := grd_k H | replace H := out_step H ‹_›)); done) | rfl | ((repeat (first | exact grd_p H | (have hp := grd_p H; exact hp) | replace H := grd_k H | replace H := out_step H ‹_› | (replace H := bind_some H; obtain ⟨_, _, H⟩ := H))); done) | (repeat (first | exact grd_p H | replace H := grd_k H | replace H := out_step H ‹_›))))
    | (with_reducible exact True.intro)
    | ((conv => whnf); first
        | (with_reducible refine And.intro ?_ ?_)
        | (with_reducible exact True.intro)
        | (with_reducible refine (?_ : Ob _))
        | ((with_reducible refine CallW.mk ?_); (repeat first | replace H := grd_k H | replace H := out_step H ‹_›); replace H := bind_some H; obtain ⟨y, hy, H⟩ := H; first | ((with_reducible have hz : strconv_Itoa _ = some y := hy); clear hz; refine ⟨_, _, strconv_Itoa.call hy ?_, rfl, rfl, ?_⟩) | ((with_reducible have hz : strings_Join _ _ = some y := hy); clear hz; refine ⟨_, _, strings_Join.call hy ?_, rfl, rfl, ?_⟩))
        | ((repeat first | replace H := grd_k H | replace H := out_step H ‹_›); refine loop_iter (G90_ok.at tok []) (ct := []) (F := (fun s1 : Int × (List ByteArray) => ⟨sl [(1, (.v (.string a1))), (5, (.own 0)), (9, (.tree (.int .i64) a0)), (10, (.v (.int .i64 (a0.length : Int)))), (11, (.v (.int .i64 s1.1)))], [some (.arr 9 .str s1.2)]⟩)) (step := (fun s : Int × (List ByteArray) => impl_numbersText_loop1 _ s.1 s.2)) _ H (by kernel_rfl) (sub_auto ?_) ?_; rotate_left; (intro s1 r v hr H); rotate_right)
        | ((repeat first | replace H := grd_k H | replace H := out_step H ‹_›); refine again_step H (by assumption) (sub_auto ?_))
        | ((with_reducible refine fin_mk ?_); (repeat first | replace H := grd_k H | replace H := out_step H ‹_›); have H := Option.some.inj H; subst H))
    | constructor
def G91 : Env := G90.add 163 [] impl_numbersText.S
theorem G91_ok : EnvOk Tryz.prog G91 := G90_ok.add ent_163 fun ar h r h1 ⟨a0, a1, y, hy, e1, e2, e3, e4⟩ => by
  subst e3 e4; exact (impl_numbersText.spec a0 a1 y hy).le e1 e2
attribute [local irreducible] impl_numbersText

noncomputable def impl_listText (a0 : (List Int)) : Option (ByteArray) :=
  (cond (decide ((a0.length : Int) = (0 : Int))) ((some (ByteArray.mk #[110, 111, 110, 101]))) ((impl_numbersText a0 (ByteArray.mk #[32])).bind fun y1 => (some y1)))
def impl_listText.res (_ : (List Int)) (y : ByteArray) : AV := (.v (.string y))
def impl_listText.out (_ : (List Int)) (_ : ByteArray) : List (Option LB) := []
def impl_listText.S (ar : List AV) (h : List (Option LB)) (r : AV) (h1 : List (Option LB)) : Prop := ∃ a0 y, impl_listText a0 = some y ∧ leL ar [(.tree (.int .i64) a0)] ∧ leH h [] ∧ r = impl_listText.res a0 y ∧ h1 = impl_listText.out a0 y
theorem impl_listText.call {ar h a0 y} (H : impl_listText a0 = some y) (h0 : leLk ar [(.tree (.int .i64) a0)] (leHk h [])) : impl_listText.S ar h (impl_listText.res a0 y) (impl_listText.out a0 y) := ⟨a0, y, H, (args_ok h0).1, (args_ok h0).2, rfl, rfl⟩
theorem impl_listText.spec (a0 y) (H : impl_listText a0 = some y) : Spec Tryz.prog 135 [(.tree (.int .i64) a0)] [] (impl_listText.res a0 y) (impl_listText.out a0 y) := by
  refine spec_intro (G91_ok.at tok []) (ct := []) Tryz.func135 rfl (by kernel_rfl) (by kernel_rfl) rfl ?_
  repeat' first
    | ((with_reducible refine eqg ?_); exact rfl)
    | ((with_reducible refine KOb.mk ?_); kernel_rfl)
    | ((with_reducible intro h); (repeat first | replace H := grd_k H | replace H := out_step H ‹_›); first | replace H := cond_t h H | replace H := cond_f h H | exact absurd h (by decide) | skip)
    | ((with_reducible refine Ob.mk ?_); first | (with_reducible rfl) | (first | ((repeat (first | (with_reducible exact grd_p H) | replace H := grd_k H | replace H := out_step H ‹_›)); done) | rfl | ((repeat (first | exact grd_p H | (have hp := grd_p H; exact hp) | replace H := grd_k H | replace H := out_step H ‹_› | (replace H := bind_some H; obtain ⟨_, _, H⟩ := H))); done) | (repeat (first | exact grd_p H | replace H := grd_k H | replace H := out_step H ‹_›))))
    | (with_reducible exact True.intro)
    | ((conv => whnf); first
        | (with_reducible refine And.intro ?_ ?_)
        | (with_reducible exact True.intro)
        | (with_reducible refine (?_ : Ob _))
        | ((with_reducible refine CallW.mk ?_); (repeat first | replace H := grd_k H | replace H := out_step H ‹_›); replace H := bind_some H; obtain ⟨y, hy, H⟩ := H; first | ((with_reducible have hz : impl_numbersText _ _ = some y := hy); clear hz; refine ⟨_, _, impl_numbersText.call hy ?_, rfl, rfl, ?_⟩))
        | ((with_reducible refine fin_mk ?_); (repeat first | replace H := grd_k H | replace H := out_step H ‹_›); have H := Option.some.inj H; subst H))
    | constructor
def G92 : Env := G91.add 135 [] impl_listText.S
theorem G92_ok : EnvOk Tryz.prog G92 := G91_ok.add ent_135 fun ar h r h1 ⟨a0, y, hy, e1, e2, e3, e4⟩ => by
  subst e3 e4; exact (impl_listText.spec a0 y hy).le e1 e2
attribute [local irreducible] impl_listText

noncomputable def impl_cabinsText_loop1 (a0 : Ropeway) (v3 : Int) (v4 : (List Int)) : Option (Lp (Int × (List Int)) (((List Int)))) :=
  (cond (decide (v3 < (a0.2.1.length : Int))) (grd (0 ≤ v3 ∧ v3 < (a0.2.1.length : Int)) (grd (v4.length + [(a0.2.1.getD v3.toNat d_Slot).1].length ≤ 140737488355328 / 8 ∧ v4.length + [(a0.2.1.getD v3.toNat d_Slot).1].length ≤ 140737488355328) (some (.go ((w64 (v3 + (1 : Int))), (v4 ++ [(a0.2.1.getD v3.toNat d_Slot).1])))))) ((some (.out v4))))
noncomputable def impl_cabinsText (a0 : Ropeway) : Option (ByteArray) :=
  ((iter (fun s => impl_cabinsText_loop1 a0 s.1 s.2) ((0 : Int), ([] : List Int))).bind (fun r5 => ((impl_listText r5).bind fun y6 => (some y6))))
def impl_cabinsText.res (_ : Ropeway) (y : ByteArray) : AV := (.v (.string y))
def impl_cabinsText.out (_ : Ropeway) (_ : ByteArray) : List (Option LB) := []
def impl_cabinsText.S (ar : List AV) (h : List (Option LB)) (r : AV) (h1 : List (Option LB)) : Prop := ∃ a0 y, impl_cabinsText a0 = some y ∧ leL ar [(.agg [(.v (.int .i64 a0.1)), (.tree ty_Slot a0.2.1), (.v (.int .i64 a0.2.2.1)), (.v (.int .i64 a0.2.2.2.1)), (.v (.int .i64 a0.2.2.2.2.1))])] ∧ leH h [] ∧ r = impl_cabinsText.res a0 y ∧ h1 = impl_cabinsText.out a0 y
theorem impl_cabinsText.call {ar h a0 y} (H : impl_cabinsText a0 = some y) (h0 : leLk ar [(.agg [(.v (.int .i64 a0.1)), (.tree ty_Slot a0.2.1), (.v (.int .i64 a0.2.2.1)), (.v (.int .i64 a0.2.2.2.1)), (.v (.int .i64 a0.2.2.2.2.1))])] (leHk h [])) : impl_cabinsText.S ar h (impl_cabinsText.res a0 y) (impl_cabinsText.out a0 y) := ⟨a0, y, H, (args_ok h0).1, (args_ok h0).2, rfl, rfl⟩
theorem impl_cabinsText.spec (a0 y) (H : impl_cabinsText a0 = some y) : Spec Tryz.prog 131 [(.agg [(.v (.int .i64 a0.1)), (.tree ty_Slot a0.2.1), (.v (.int .i64 a0.2.2.1)), (.v (.int .i64 a0.2.2.2.1)), (.v (.int .i64 a0.2.2.2.2.1))])] [] (impl_cabinsText.res a0 y) (impl_cabinsText.out a0 y) := by
  refine spec_intro (G92_ok.at tok []) (ct := []) Tryz.func131 rfl (by kernel_rfl) (by kernel_rfl) rfl ?_
  repeat' first
    | ((with_reducible refine eqg ?_); exact rfl)
    | ((with_reducible refine KOb.mk ?_); kernel_rfl)
    | ((with_reducible intro h); (repeat first | replace H := grd_k H | replace H := out_step H ‹_›); first | replace H := cond_t h H | replace H := cond_f h H | exact absurd h (by decide) | skip)
    | ((with_reducible refine Ob.mk ?_); first | (with_reducible rfl) | (first | ((repeat (first | (with_reducible exact grd_p H) | replace H := grd_k H | replace H := out_step H ‹_›)); done) | rfl | ((repeat (first | exact grd_p H | (have hp := grd_p H; exact hp) | replace H := grd_k H | replace H := out_step H ‹_› | (replace H := bind_some H; obtain ⟨_, _, H⟩ := H))); done) | (repeat (first | exact grd_p H | replace H := grd_k H | replace H := out_step H ‹_›))))
    | (with_reducible exact True.intro)
    | ((conv => whnf); first
        | (with_reducible refine And.intro ?_ ?_)
        | (with_reducible exact True.intro)
        | (with_reducible refine (?_ : Ob _))
        | ((with_reducible refine CallW.mk ?_); (repeat first | replace H := grd_k H | replace H := out_step H ‹_›); replace H := bind_some H; obtain ⟨y, hy, H⟩ := H; first | ((with_reducible have hz : impl_listText _ = some y := hy); clear hz; refine ⟨_, _, impl_listText.call hy ?_, rfl, rfl, ?_⟩))
        | ((repeat first | replace H := grd_k H | replace H := out_step H ‹_›); refine loop_iter (G92_ok.at tok []) (ct := []) (F := (fun s1 : Int × (List Int) => ⟨sl [(3, (.own 0)), (8, (.tree ty_Slot a0.2.1)), (9, (.v (.int .i64 (a0.2.1.length : Int)))), (10, (.v (.int .i64 s1.1)))], [some (.arr 3 (.int .i64) s1.2)]⟩)) (step := (fun s : Int × (List Int) => impl_cabinsText_loop1 _ s.1 s.2)) _ H (by kernel_rfl) (sub_auto ?_) ?_; rotate_left; (intro s1 r v hr H); rotate_right)
        | ((repeat first | replace H := grd_k H | replace H := out_step H ‹_›); refine again_step H (by assumption) (sub_auto ?_))
        | ((with_reducible refine fin_mk ?_); (repeat first | replace H := grd_k H | replace H := out_step H ‹_›); have H := Option.some.inj H; subst H))
    | constructor
def G93 : Env := G92.add 131 [] impl_cabinsText.S
theorem G93_ok : EnvOk Tryz.prog G93 := G92_ok.add ent_131 fun ar h r h1 ⟨a0, y, hy, e1, e2, e3, e4⟩ => by
  subst e3 e4; exact (impl_cabinsText.spec a0 y hy).le e1 e2
attribute [local irreducible] impl_cabinsText

noncomputable def impl_stepReply (a0 : Ropeway) (a1 : RopeStep) : Option (ByteArray) :=
  (cond (decide (a1.1 = (1 : Int))) (grd (0 ≤ a1.2.1 ∧ a1.2.1 < (4 : Int)) ((some ([(ByteArray.mk #[115, 116, 111, 112, 112, 101, 100]), (ByteArray.mk #[115, 108, 111, 119]), (ByteArray.mk #[110, 111, 114, 109, 97, 108]), (ByteArray.mk #[108, 111, 99, 107, 101, 100])].getD a1.2.1.toNat (ByteArray.mk #[]))))) (cond (decide (a1.1 = (7 : Int))) ((impl_Ropeway_stationOf (a0.1, a0.2.1, a0.2.2.1, a0.2.2.2.1, a0.2.2.2.2.1, ()) a1.2.1).bind fun y1 => (grd (0 ≤ y1 ∧ y1 < (a0.2.1.length : Int)) (cond ((a0.2.1.getD y1.toNat d_Slot).2.1) ((some (ByteArray.mk #[111, 112, 101, 110]))) ((some (ByteArray.mk #[115, 104, 117, 116])))))) ((cond (decide (a1.1 = (5 : Int))) ((some true)) ((some (decide (a1.1 = (6 : Int)))))).bind fun z2 => (cond z2 ((impl_Ropeway_stationOf (a0.1, a0.2.1, a0.2.2.1, a0.2.2.2.1, a0.2.2.2.2.1, ()) a1.2.1).bind fun y3 => (grd (0 ≤ y3 ∧ y3 < (a0.2.1.length : Int)) ((strconv_Itoa ((a0.2.1.getD y3.toNat d_Slot).2.2.1)).bind fun y4 => (some y4)))) ((impl_cabinsText (a0.1, a0.2.1, a0.2.2.1, a0.2.2.2.1, a0.2.2.2.2.1, ())).bind fun y5 => (some y5))))))
def impl_stepReply.res (_ : Ropeway) (_ : RopeStep) (y : ByteArray) : AV := (.v (.string y))
def impl_stepReply.out (_ : Ropeway) (_ : RopeStep) (_ : ByteArray) : List (Option LB) := []
def impl_stepReply.S (ar : List AV) (h : List (Option LB)) (r : AV) (h1 : List (Option LB)) : Prop := ∃ a0 a1 y, impl_stepReply a0 a1 = some y ∧ leL ar [(.agg [(.v (.int .i64 a0.1)), (.tree ty_Slot a0.2.1), (.v (.int .i64 a0.2.2.1)), (.v (.int .i64 a0.2.2.2.1)), (.v (.int .i64 a0.2.2.2.2.1))]), (.agg [(.v (.int .i64 a1.1)), (.v (.int .i64 a1.2.1))])] ∧ leH h [] ∧ r = impl_stepReply.res a0 a1 y ∧ h1 = impl_stepReply.out a0 a1 y
theorem impl_stepReply.call {ar h a0 a1 y} (H : impl_stepReply a0 a1 = some y) (h0 : leLk ar [(.agg [(.v (.int .i64 a0.1)), (.tree ty_Slot a0.2.1), (.v (.int .i64 a0.2.2.1)), (.v (.int .i64 a0.2.2.2.1)), (.v (.int .i64 a0.2.2.2.2.1))]), (.agg [(.v (.int .i64 a1.1)), (.v (.int .i64 a1.2.1))])] (leHk h [])) : impl_stepReply.S ar h (impl_stepReply.res a0 a1 y) (impl_stepReply.out a0 a1 y) := ⟨a0, a1, y, H, (args_ok h0).1, (args_ok h0).2, rfl, rfl⟩
theorem impl_stepReply.spec (a0 a1 y) (H : impl_stepReply a0 a1 = some y) : Spec Tryz.prog 90 [(.agg [(.v (.int .i64 a0.1)), (.tree ty_Slot a0.2.1), (.v (.int .i64 a0.2.2.1)), (.v (.int .i64 a0.2.2.2.1)), (.v (.int .i64 a0.2.2.2.2.1))]), (.agg [(.v (.int .i64 a1.1)), (.v (.int .i64 a1.2.1))])] [] (impl_stepReply.res a0 a1 y) (impl_stepReply.out a0 a1 y) := by
  refine spec_intro (G93_ok.at tok []) (ct := [(10, none), (6, some [23])]) Tryz.func90 rfl (by kernel_rfl) (by kernel_rfl) rfl ?_
  repeat' first
    | ((with_reducible refine eqg ?_); exact rfl)
    | ((with_reducible refine KOb.mk ?_); kernel_rfl)
    | ((with_reducible intro h); (repeat first | replace H := grd_k H | replace H := out_step H ‹_›); first | replace H := cond_t h H | replace H := cond_f h H | exact absurd h (by decide) | skip)
    | ((with_reducible refine Ob.mk ?_); first | (with_reducible rfl) | (first | ((repeat (first | (with_reducible exact grd_p H) | replace H := grd_k H | replace H := out_step H ‹_›)); done) | rfl | ((repeat (first | exact grd_p H | (have hp := grd_p H; exact hp) | replace H := grd_k H | replace H := out_step H ‹_› | (replace H := bind_some H; obtain ⟨_, _, H⟩ := H))); done) | (repeat (first | exact grd_p H | replace H := grd_k H | replace H := out_step H ‹_›))))
    | (with_reducible exact True.intro)
    | ((conv => whnf); first
        | (with_reducible refine And.intro ?_ ?_)
        | (with_reducible exact True.intro)
        | (with_reducible refine (?_ : Ob _))
        | ((with_reducible refine CallW.mk ?_); (repeat first | replace H := grd_k H | replace H := out_step H ‹_›); replace H := bind_some H; obtain ⟨y, hy, H⟩ := H; first | ((with_reducible have hz : impl_Ropeway_stationOf _ _ = some y := hy); clear hz; refine ⟨_, _, impl_Ropeway_stationOf.call hy ?_, rfl, rfl, ?_⟩) | ((with_reducible have hz : strconv_Itoa _ = some y := hy); clear hz; refine ⟨_, _, strconv_Itoa.call hy ?_, rfl, rfl, ?_⟩) | ((with_reducible have hz : impl_cabinsText _ = some y := hy); clear hz; refine ⟨_, _, impl_cabinsText.call hy ?_, rfl, rfl, ?_⟩))
        | ((with_reducible refine cutAt (id := 10) ?_); (repeat first | replace H := grd_k H | replace H := out_step H ‹_›); first | (replace H := bind_some H; obtain ⟨z, hz, H⟩ := H; refine CutC.mk (id := 10) ⟨sl [(2, (.loc 0 0 0)), (3, (.loc 1 0 0)), (24, (.bl z))], [some (.box 38 [(.v (.int .i64 a0.1)), (.tree ty_Slot a0.2.1), (.v (.int .i64 a0.2.2.1)), (.v (.int .i64 a0.2.2.2.1)), (.v (.int .i64 a0.2.2.2.2.1))]), some (.box 120 [(.v (.int .i64 a1.1)), (.v (.int .i64 a1.2.1))])]⟩ ?_ ?_; (replace H := hz)))
        | ((repeat first | replace H := grd_k H | replace H := out_step H ‹_›); have H := Option.some.inj H; subst H; with_reducible refine sub_auto ?_)
        | ((with_reducible refine fin_mk ?_); (repeat first | replace H := grd_k H | replace H := out_step H ‹_›); have H := Option.some.inj H; subst H))
    | constructor
def G94 : Env := G93.add 90 [] impl_stepReply.S
theorem G94_ok : EnvOk Tryz.prog G94 := G93_ok.add ent_90 fun ar h r h1 ⟨a0, a1, y, hy, e1, e2, e3, e4⟩ => by
  subst e3 e4; exact (impl_stepReply.spec a0 a1 y hy).le e1 e2
attribute [local irreducible] impl_stepReply

noncomputable def impl_CabinAt (a0 : Ropeway) (a1 : Int) : Option (Int × Bool) :=
  ((impl_IsRopeway (a0.1, a0.2.1, a0.2.2.1, a0.2.2.2.1, a0.2.2.2.2.1, ())).bind fun y1 => (cond (!y1) ((some ((0 : Int), false))) ((impl_Ropeway_cabinAt (a0.1, a0.2.1, a0.2.2.1, a0.2.2.2.1, a0.2.2.2.2.1, ()) a1).bind fun y2 => (some ((if false = true then (if (0 : Int) < y2 then (0 : Int) else y2) else (if (0 : Int) > y2 then (0 : Int) else y2)), (decide ((0 : Int) ≤ y2)))))))
def impl_CabinAt.res (_ : Ropeway) (_ : Int) (y : Int × Bool) : AV := (.tup [(.v (.int .i64 y.1)), (.bl y.2)])
def impl_CabinAt.out (_ : Ropeway) (_ : Int) (_ : Int × Bool) : List (Option LB) := []
def impl_CabinAt.S (ar : List AV) (h : List (Option LB)) (r : AV) (h1 : List (Option LB)) : Prop := ∃ a0 a1 y, impl_CabinAt a0 a1 = some y ∧ leL ar [(.agg [(.v (.int .i64 a0.1)), (.tree ty_Slot a0.2.1), (.v (.int .i64 a0.2.2.1)), (.v (.int .i64 a0.2.2.2.1)), (.v (.int .i64 a0.2.2.2.2.1))]), (.v (.int .i64 a1))] ∧ leH h [] ∧ r = impl_CabinAt.res a0 a1 y ∧ h1 = impl_CabinAt.out a0 a1 y
theorem impl_CabinAt.call {ar h a0 a1 y} (H : impl_CabinAt a0 a1 = some y) (h0 : leLk ar [(.agg [(.v (.int .i64 a0.1)), (.tree ty_Slot a0.2.1), (.v (.int .i64 a0.2.2.1)), (.v (.int .i64 a0.2.2.2.1)), (.v (.int .i64 a0.2.2.2.2.1))]), (.v (.int .i64 a1))] (leHk h [])) : impl_CabinAt.S ar h (impl_CabinAt.res a0 a1 y) (impl_CabinAt.out a0 a1 y) := ⟨a0, a1, y, H, (args_ok h0).1, (args_ok h0).2, rfl, rfl⟩
theorem impl_CabinAt.spec (a0 a1 y) (H : impl_CabinAt a0 a1 = some y) : Spec Tryz.prog 132 [(.agg [(.v (.int .i64 a0.1)), (.tree ty_Slot a0.2.1), (.v (.int .i64 a0.2.2.1)), (.v (.int .i64 a0.2.2.2.1)), (.v (.int .i64 a0.2.2.2.2.1))]), (.v (.int .i64 a1))] [] (impl_CabinAt.res a0 a1 y) (impl_CabinAt.out a0 a1 y) := by
  refine spec_intro (G94_ok.at tok []) (ct := []) Tryz.func132 rfl (by kernel_rfl) (by kernel_rfl) rfl ?_
  repeat' first
    | ((with_reducible refine eqg ?_); exact rfl)
    | ((with_reducible refine KOb.mk ?_); kernel_rfl)
    | ((with_reducible intro h); (repeat first | replace H := grd_k H | replace H := out_step H ‹_›); first | replace H := cond_t h H | replace H := cond_f h H | exact absurd h (by decide) | skip)
    | ((with_reducible refine Ob.mk ?_); first | (with_reducible rfl) | (first | ((repeat (first | (with_reducible exact grd_p H) | replace H := grd_k H | replace H := out_step H ‹_›)); done) | rfl | ((repeat (first | exact grd_p H | (have hp := grd_p H; exact hp) | replace H := grd_k H | replace H := out_step H ‹_› | (replace H := bind_some H; obtain ⟨_, _, H⟩ := H))); done) | (repeat (first | exact grd_p H | replace H := grd_k H | replace H := out_step H ‹_›))))
    | (with_reducible exact True.intro)
    | ((conv => whnf); first
        | (with_reducible refine And.intro ?_ ?_)
        | (with_reducible exact True.intro)
        | (with_reducible refine (?_ : Ob _))
        | ((with_reducible refine CallW.mk ?_); (repeat first | replace H := grd_k H | replace H := out_step H ‹_›); replace H := bind_some H; obtain ⟨y, hy, H⟩ := H; first | ((with_reducible have hz : impl_IsRopeway _ = some y := hy); clear hz; refine ⟨_, _, impl_IsRopeway.call hy ?_, rfl, rfl, ?_⟩) | ((with_reducible have hz : impl_Ropeway_cabinAt _ _ = some y := hy); clear hz; refine ⟨_, _, impl_Ropeway_cabinAt.call hy ?_, rfl, rfl, ?_⟩))
        | ((with_reducible refine fin_mk ?_); (repeat first | replace H := grd_k H | replace H := out_step H ‹_›); have H := Option.some.inj H; subst H))
    | constructor
def G95 : Env := G94.add 132 [] impl_CabinAt.S
theorem G95_ok : EnvOk Tryz.prog G95 := G94_ok.add ent_132 fun ar h r h1 ⟨a0, a1, y, hy, e1, e2, e3, e4⟩ => by
  subst e3 e4; exact (impl_CabinAt.spec a0 a1 y hy).le e1 e2
attribute [local irreducible] impl_CabinAt

noncomputable def impl_TurnsTo (a0 : Ropeway) (a1 : Int) (a2 : Bool) : Option (Int × Bool) :=
  ((impl_CabinAt (a0.1, a0.2.1, a0.2.2.1, a0.2.2.2.1, a0.2.2.2.2.1, ()) a1).bind fun y1 => (cond (!y1.2) ((some ((0 : Int), false))) (cond a2 (grd ((2 : Int) ≠ 0) (grd ((a0.2.1.length : Int) ≠ 0) ((some ((Int.tmod (w64 ((w64 ((w64 (Int.tdiv (a0.2.1.length : Int) (2 : Int))) - y1.1)) + (a0.2.1.length : Int))) (a0.2.1.length : Int)), true))))) (grd ((a0.2.1.length : Int) ≠ 0) ((some ((Int.tmod (w64 ((w64 ((0 : Int) - y1.1)) + (a0.2.1.length : Int))) (a0.2.1.length : Int)), true)))))))
def impl_TurnsTo.res (_ : Ropeway) (_ : Int) (_ : Bool) (y : Int × Bool) : AV := (.tup [(.v (.int .i64 y.1)), (.bl y.2)])
def impl_TurnsTo.out (_ : Ropeway) (_ : Int) (_ : Bool) (_ : Int × Bool) : List (Option LB) := []
def impl_TurnsTo.S (ar : List AV) (h : List (Option LB)) (r : AV) (h1 : List (Option LB)) : Prop := ∃ a0 a1 a2 y, impl_TurnsTo a0 a1 a2 = some y ∧ leL ar [(.agg [(.v (.int .i64 a0.1)), (.tree ty_Slot a0.2.1), (.v (.int .i64 a0.2.2.1)), (.v (.int .i64 a0.2.2.2.1)), (.v (.int .i64 a0.2.2.2.2.1))]), (.v (.int .i64 a1)), (.bl a2)] ∧ leH h [] ∧ r = impl_TurnsTo.res a0 a1 a2 y ∧ h1 = impl_TurnsTo.out a0 a1 a2 y
theorem impl_TurnsTo.call {ar h a0 a1 a2 y} (H : impl_TurnsTo a0 a1 a2 = some y) (h0 : leLk ar [(.agg [(.v (.int .i64 a0.1)), (.tree ty_Slot a0.2.1), (.v (.int .i64 a0.2.2.1)), (.v (.int .i64 a0.2.2.2.1)), (.v (.int .i64 a0.2.2.2.2.1))]), (.v (.int .i64 a1)), (.bl a2)] (leHk h [])) : impl_TurnsTo.S ar h (impl_TurnsTo.res a0 a1 a2 y) (impl_TurnsTo.out a0 a1 a2 y) := ⟨a0, a1, a2, y, H, (args_ok h0).1, (args_ok h0).2, rfl, rfl⟩
theorem impl_TurnsTo.spec (a0 a1 a2 y) (H : impl_TurnsTo a0 a1 a2 = some y) : Spec Tryz.prog 133 [(.agg [(.v (.int .i64 a0.1)), (.tree ty_Slot a0.2.1), (.v (.int .i64 a0.2.2.1)), (.v (.int .i64 a0.2.2.2.1)), (.v (.int .i64 a0.2.2.2.2.1))]), (.v (.int .i64 a1)), (.bl a2)] [] (impl_TurnsTo.res a0 a1 a2 y) (impl_TurnsTo.out a0 a1 a2 y) := by
  refine spec_intro (G95_ok.at tok []) (ct := [(4, some [2, 3, 8])]) Tryz.func133 rfl (by kernel_rfl) (by kernel_rfl) rfl ?_
  repeat' first
    | ((with_reducible refine eqg ?_); exact rfl)
    | ((with_reducible refine KOb.mk ?_); kernel_rfl)
    | ((with_reducible intro h); (repeat first | replace H := grd_k H | replace H := out_step H ‹_›); first | replace H := cond_t h H | replace H := cond_f h H | exact absurd h (by decide) | skip)
    | ((with_reducible refine Ob.mk ?_); first | (with_reducible rfl) | (first | ((repeat (first | (with_reducible exact grd_p H) | replace H := grd_k H | replace H := out_step H ‹_›)); done) | rfl | ((repeat (first | exact grd_p H | (have hp := grd_p H; exact hp) | replace H := grd_k H | replace H := out_step H ‹_› | (replace H := bind_some H; obtain ⟨_, _, H⟩ := H))); done) | (repeat (first | exact grd_p H | replace H := grd_k H | replace H := out_step H ‹_›))))
    | (with_reducible exact True.intro)
    | ((conv => whnf); first
        | (with_reducible refine And.intro ?_ ?_)
        | (with_reducible exact True.intro)
        | (with_reducible refine (?_ : Ob _))
        | ((with_reducible refine CallW.mk ?_); (repeat first | replace H := grd_k H | replace H := out_step H ‹_›); replace H := bind_some H; obtain ⟨y, hy, H⟩ := H; first | ((with_reducible have hz : impl_CabinAt _ _ = some y := hy); clear hz; refine ⟨_, _, impl_CabinAt.call hy ?_, rfl, rfl, ?_⟩))
        | ((with_reducible refine fin_mk ?_); (repeat first | replace H := grd_k H | replace H := out_step H ‹_›); have H := Option.some.inj H; subst H))
    | constructor
def G96 : Env := G95.add 133 [] impl_TurnsTo.S
theorem G96_ok : EnvOk Tryz.prog G96 := G95_ok.add ent_133 fun ar h r h1 ⟨a0, a1, a2, y, hy, e1, e2, e3, e4⟩ => by
  subst e3 e4; exact (impl_TurnsTo.spec a0 a1 a2 y hy).le e1 e2
attribute [local irreducible] impl_TurnsTo

end Go.Proofs.YtaobinhdnklojaaGreatDoor
namespace Go.Proofs.YtaobinhdnklojaaGreatDoor
open Go.RowKit
set_option maxHeartbeats 100000000
set_option maxRecDepth 100000
attribute [local irreducible] Ob loopwp Sub Spec Fin Again CallW CutC KOb iter

attribute [local irreducible] spec_l1Num_f impl_Ropeway_isStation impl_IsRopeway strconv_Itoa impl_AppendChecksum strings_Split impl_ParseInt impl_stepOf slices_IndexFunc___impl_Slot_impl_Slot__i2 slices_IndexFunc___impl_Slot_impl_Slot__i3 slices_ContainsFunc___impl_Slot_impl_Slot__i2 slices_Clone___impl_Slot_impl_Slot__i1 impl_copyRopeway_i1 impl_Ropeway_step impl_listText impl_stepReply impl_CabinAt impl_TurnsTo

noncomputable def impl_Ropeway_peopleOn_loop1 (a0 : Ropeway) (v6 : Int) (v7 : Int) (v8 : Int) : Option (Lp (Int × Int × Int) ((Int × Int))) :=
  (cond (decide (v8 < (a0.2.1.length : Int))) (grd (0 ≤ v8 ∧ v8 < (a0.2.1.length : Int)) ((impl_Ropeway_isStation (a0.1, a0.2.1, a0.2.2.1, a0.2.2.2.1, a0.2.2.2.2.1, ()) v8).bind fun y9 => (cond (!y9) (some (.go ((w64 (v6 + ((a0.2.1.getD v8.toNat d_Slot).2.2.1))), (w64 (v7 + ((a0.2.1.getD v8.toNat d_Slot).2.2.1))), (w64 (v8 + (1 : Int)))))) (some (.go ((w64 (v6 + ((a0.2.1.getD v8.toNat d_Slot).2.2.1))), v7, (w64 (v8 + (1 : Int))))))))) ((some (.out (v6, v7)))))
noncomputable def impl_Ropeway_peopleOn (a0 : Ropeway) : Option (Int × Int) :=
  ((iter (fun s => impl_Ropeway_peopleOn_loop1 a0 s.1 s.2.1 s.2.2) ((0 : Int), (0 : Int), (0 : Int))).bind (fun r10 => (some (r10.1, r10.2))))
def impl_Ropeway_peopleOn.res (_ : Ropeway) (y : Int × Int) : AV := (.tup [(.v (.int .i64 y.1)), (.v (.int .i64 y.2))])
def impl_Ropeway_peopleOn.out (_ : Ropeway) (_ : Int × Int) : List (Option LB) := []
def impl_Ropeway_peopleOn.S (ar : List AV) (h : List (Option LB)) (r : AV) (h1 : List (Option LB)) : Prop := ∃ a0 y, impl_Ropeway_peopleOn a0 = some y ∧ leL ar [(.agg [(.v (.int .i64 a0.1)), (.tree ty_Slot a0.2.1), (.v (.int .i64 a0.2.2.1)), (.v (.int .i64 a0.2.2.2.1)), (.v (.int .i64 a0.2.2.2.2.1))])] ∧ leH h [] ∧ r = impl_Ropeway_peopleOn.res a0 y ∧ h1 = impl_Ropeway_peopleOn.out a0 y
theorem impl_Ropeway_peopleOn.call {ar h a0 y} (H : impl_Ropeway_peopleOn a0 = some y) (h0 : leLk ar [(.agg [(.v (.int .i64 a0.1)), (.tree ty_Slot a0.2.1), (.v (.int .i64 a0.2.2.1)), (.v (.int .i64 a0.2.2.2.1)), (.v (.int .i64 a0.2.2.2.2.1))])] (leHk h [])) : impl_Ropeway_peopleOn.S ar h (impl_Ropeway_peopleOn.res a0 y) (impl_Ropeway_peopleOn.out a0 y) := ⟨a0, y, H, (args_ok h0).1, (args_ok h0).2, rfl, rfl⟩
theorem impl_Ropeway_peopleOn.spec (a0 y) (H : impl_Ropeway_peopleOn a0 = some y) : Spec Tryz.prog 134 [(.agg [(.v (.int .i64 a0.1)), (.tree ty_Slot a0.2.1), (.v (.int .i64 a0.2.2.1)), (.v (.int .i64 a0.2.2.2.1)), (.v (.int .i64 a0.2.2.2.2.1))])] [] (impl_Ropeway_peopleOn.res a0 y) (impl_Ropeway_peopleOn.out a0 y) := by
  refine spec_intro (G96_ok.at tok []) (ct := [(7, some [1, 4, 5, 7, 9, 10, 11, 23])]) Tryz.func134 rfl (by kernel_rfl) (by kernel_rfl) rfl ?_
  repeat' first
    | ((with_reducible refine eqg ?_); exact rfl)
    | ((with_reducible refine KOb.mk ?_); kernel_rfl)
    | ((with_reducible intro h); (repeat first | replace H := grd_k H | replace H := out_step H ‹_›); first | replace H := cond_t h H | replace H := cond_f h H | exact absurd h (by decide) | skip)
    | ((with_reducible refine Ob.mk ?_); first | (with_reducible rfl) | (first | ((repeat (first | (with_reducible exact grd_p H) | replace H := grd_k H | replace H := out_step H ‹_›)); done) | rfl | ((repeat (first | exact grd_p H | (have hp := grd_p H; exact hp) | replace H := grd_k H | replace H := out_step H ‹_› | (replace H := bind_some H; obtain ⟨_, _, H⟩ := H))); done) | (repeat (first | exact grd_p H | replace H := grd_k H | replace H := out_step H ‹_›))))
    | (with_reducible exact True.intro)
    | ((conv => whnf); first
        | (with_reducible refine And.intro ?_ ?_)
        | (with_reducible exact True.intro)
        | (with_reducible refine (?_ : Ob _))
        | ((with_reducible refine CallW.mk ?_); (repeat first | replace H := grd_k H | replace H := out_step H ‹_›); replace H := bind_some H; obtain ⟨y, hy, H⟩ := H; first | ((with_reducible have hz : impl_Ropeway_isStation _ _ = some y := hy); clear hz; refine ⟨_, _, impl_Ropeway_isStation.call hy ?_, rfl, rfl, ?_⟩))
        | ((repeat first | replace H := grd_k H | replace H := out_step H ‹_›); refine loop_iter (G96_ok.at tok []) (ct := [(7, some [1, 4, 5, 7, 9, 10, 11, 23])]) (F := (fun s1 : Int × Int × Int => ⟨sl [(1, (.loc 0 0 0)), (4, (.v (.int .i64 s1.1))), (5, (.v (.int .i64 s1.2.1))), (9, (.tree ty_Slot a0.2.1)), (10, (.v (.int .i64 (a0.2.1.length : Int)))), (11, (.v (.int .i64 s1.2.2)))], [some (.box 38 [(.v (.int .i64 a0.1)), (.tree ty_Slot a0.2.1), (.v (.int .i64 a0.2.2.1)), (.v (.int .i64 a0.2.2.2.1)), (.v (.int .i64 a0.2.2.2.2.1))])]⟩)) (step := (fun s : Int × Int × Int => impl_Ropeway_peopleOn_loop1 _ s.1 s.2.1 s.2.2)) _ H (by kernel_rfl) (sub_auto ?_) ?_; rotate_left; (intro s1 r v hr H); rotate_right)
        | ((repeat first | replace H := grd_k H | replace H := out_step H ‹_›); refine again_step H (by assumption) (sub_auto ?_))
        | ((with_reducible refine fin_mk ?_); (repeat first | replace H := grd_k H | replace H := out_step H ‹_›); have H := Option.some.inj H; subst H))
    | constructor
def G97 : Env := G96.add 134 [] impl_Ropeway_peopleOn.S
theorem G97_ok : EnvOk Tryz.prog G97 := G96_ok.add ent_134 fun ar h r h1 ⟨a0, y, hy, e1, e2, e3, e4⟩ => by
  subst e3 e4; exact (impl_Ropeway_peopleOn.spec a0 y hy).le e1 e2
attribute [local irreducible] impl_Ropeway_peopleOn

noncomputable def impl_OpenDoors_loop1 (a0 : Ropeway) (v4 : Int) (v5 : (List Int)) : Option (Lp (Int × (List Int)) (((List Int)))) :=
  (cond (decide (v4 < (a0.2.1.length : Int))) (grd (0 ≤ v4 ∧ v4 < (a0.2.1.length : Int)) (cond ((a0.2.1.getD v4.toNat d_Slot).2.1) (grd (v5.length + [v4].length ≤ 140737488355328 / 8 ∧ v5.length + [v4].length ≤ 140737488355328) (some (.go ((w64 (v4 + (1 : Int))), (v5 ++ [v4]))))) (some (.go ((w64 (v4 + (1 : Int))), v5))))) ((some (.out v5))))
noncomputable def impl_OpenDoors (a0 : Ropeway) : Option ((Unit) ⊕ ((List Int))) :=
  ((impl_IsRopeway (a0.1, a0.2.1, a0.2.2.1, a0.2.2.2.1, a0.2.2.2.2.1, ())).bind fun y1 => (cond (!y1) ((some (Sum.inl ()))) ((iter (fun s => impl_OpenDoors_loop1 a0 s.1 s.2) ((0 : Int), ([] : List Int))).bind (fun r6 => (some (Sum.inr r6))))))
def impl_OpenDoors.res (_ : Ropeway) (y : (Unit) ⊕ ((List Int))) : AV := match y with
  | (.inl _) => (.tup [(.v (.slice none 0 0)), (.v (.bool false))])
  | (.inr _) => (.tup [(.own 0), (.v (.bool true))])
def impl_OpenDoors.out (_ : Ropeway) (y : (Unit) ⊕ ((List Int))) : List (Option LB) := match y with
  | (.inl _) => []
  | (.inr y) => [some (.arr 3 (.int .i64) y)]
def impl_OpenDoors.S (ar : List AV) (h : List (Option LB)) (r : AV) (h1 : List (Option LB)) : Prop := ∃ a0 y, impl_OpenDoors a0 = some y ∧ leL ar [(.agg [(.v (.int .i64 a0.1)), (.tree ty_Slot a0.2.1), (.v (.int .i64 a0.2.2.1)), (.v (.int .i64 a0.2.2.2.1)), (.v (.int .i64 a0.2.2.2.2.1))])] ∧ leH h [] ∧ r = impl_OpenDoors.res a0 y ∧ h1 = impl_OpenDoors.out a0 y
theorem impl_OpenDoors.call {ar h a0 y} (H : impl_OpenDoors a0 = some y) (h0 : leLk ar [(.agg [(.v (.int .i64 a0.1)), (.tree ty_Slot a0.2.1), (.v (.int .i64 a0.2.2.1)), (.v (.int .i64 a0.2.2.2.1)), (.v (.int .i64 a0.2.2.2.2.1))])] (leHk h [])) : impl_OpenDoors.S ar h (impl_OpenDoors.res a0 y) (impl_OpenDoors.out a0 y) := ⟨a0, y, H, (args_ok h0).1, (args_ok h0).2, rfl, rfl⟩
theorem impl_OpenDoors.spec (a0 y) (H : impl_OpenDoors a0 = some y) : Spec Tryz.prog 136 [(.agg [(.v (.int .i64 a0.1)), (.tree ty_Slot a0.2.1), (.v (.int .i64 a0.2.2.1)), (.v (.int .i64 a0.2.2.2.1)), (.v (.int .i64 a0.2.2.2.2.1))])] [] (impl_OpenDoors.res a0 y) (impl_OpenDoors.out a0 y) := by
  have hlen : Nat.ble ([] : List (Option LB)).length (impl_OpenDoors.out a0 y).length = true := by
    rcases y with y | y <;> rfl
  refine spec_intro (G97_ok.at tok []) (ct := [(5, some [4, 12, 13, 14])]) Tryz.func136 rfl (by kernel_rfl) (by kernel_rfl) hlen ?_
  repeat' first
    | ((with_reducible refine eqg ?_); exact rfl)
    | ((with_reducible refine KOb.mk ?_); kernel_rfl)
    | ((with_reducible intro h); (repeat first | replace H := grd_k H | replace H := out_step H ‹_›); first | replace H := cond_t h H | replace H := cond_f h H | exact absurd h (by decide) | skip)
    | ((with_reducible refine Ob.mk ?_); first | (with_reducible rfl) | (first | ((repeat (first | (with_reducible exact grd_p H) | replace H := grd_k H | replace H := out_step H ‹_›)); done) | rfl | ((repeat (first | exact grd_p H | (have hp := grd_p H; exact hp) | replace H := grd_k H | replace H := out_step H ‹_› | (replace H := bind_some H; obtain ⟨_, _, H⟩ := H))); done) | (repeat (first | exact grd_p H | replace H := grd_k H | replace H := out_step H ‹_›))))
    | (with_reducible exact True.intro)
    | ((conv => whnf); first
        | (with_reducible refine And.intro ?_ ?_)
        | (with_reducible exact True.intro)
        | (with_reducible refine (?_ : Ob _))
        | ((with_reducible refine CallW.mk ?_); (repeat first | replace H := grd_k H | replace H := out_step H ‹_›); replace H := bind_some H; obtain ⟨y, hy, H⟩ := H; first | ((with_reducible have hz : impl_IsRopeway _ = some y := hy); clear hz; refine ⟨_, _, impl_IsRopeway.call hy ?_, rfl, rfl, ?_⟩))
        | ((repeat first | replace H := grd_k H | replace H := out_step H ‹_›); refine loop_iter (G97_ok.at tok []) (ct := [(5, some [4, 12, 13, 14])]) (F := (fun s1 : Int × (List Int) => ⟨sl [(4, (.own 0)), (12, (.tree ty_Slot a0.2.1)), (13, (.v (.int .i64 (a0.2.1.length : Int)))), (14, (.v (.int .i64 s1.1)))], [some (.arr 3 (.int .i64) s1.2)]⟩)) (step := (fun s : Int × (List Int) => impl_OpenDoors_loop1 _ s.1 s.2)) _ H (by kernel_rfl) (sub_auto ?_) ?_; rotate_left; (intro s1 r v hr H); rotate_right)
        | ((repeat first | replace H := grd_k H | replace H := out_step H ‹_›); refine again_step H (by assumption) (sub_auto ?_))
        | ((with_reducible refine fin_mk ?_); (repeat first | replace H := grd_k H | replace H := out_step H ‹_›); have H := Option.some.inj H; subst H))
    | constructor
def G98 : Env := G97.add 136 [] impl_OpenDoors.S
theorem G98_ok : EnvOk Tryz.prog G98 := G97_ok.add ent_136 fun ar h r h1 ⟨a0, y, hy, e1, e2, e3, e4⟩ => by
  subst e3 e4; exact (impl_OpenDoors.spec a0 y hy).le e1 e2
attribute [local irreducible] impl_OpenDoors

noncomputable def impl_IsCleared (a0 : Ropeway) : Option (Bool × Bool) :=
  ((impl_IsRopeway (a0.1, a0.2.1, a0.2.2.1, a0.2.2.2.1, a0.2.2.2.2.1, ())).bind fun y1 => (cond (!y1) ((some (false, false))) ((impl_Ropeway_peopleOn (a0.1, a0.2.1, a0.2.2.1, a0.2.2.2.1, a0.2.2.2.2.1, ())).bind fun y2 => (cond (decide (y2.1 = (0 : Int))) ((some ((decide (a0.2.2.2.1 = (0 : Int))), true))) ((some (false, true)))))))
def impl_IsCleared.res (_ : Ropeway) (y : Bool × Bool) : AV := (.tup [(.bl y.1), (.bl y.2)])
def impl_IsCleared.out (_ : Ropeway) (_ : Bool × Bool) : List (Option LB) := []
def impl_IsCleared.S (ar : List AV) (h : List (Option LB)) (r : AV) (h1 : List (Option LB)) : Prop := ∃ a0 y, impl_IsCleared a0 = some y ∧ leL ar [(.agg [(.v (.int .i64 a0.1)), (.tree ty_Slot a0.2.1), (.v (.int .i64 a0.2.2.1)), (.v (.int .i64 a0.2.2.2.1)), (.v (.int .i64 a0.2.2.2.2.1))])] ∧ leH h [] ∧ r = impl_IsCleared.res a0 y ∧ h1 = impl_IsCleared.out a0 y
theorem impl_IsCleared.call {ar h a0 y} (H : impl_IsCleared a0 = some y) (h0 : leLk ar [(.agg [(.v (.int .i64 a0.1)), (.tree ty_Slot a0.2.1), (.v (.int .i64 a0.2.2.1)), (.v (.int .i64 a0.2.2.2.1)), (.v (.int .i64 a0.2.2.2.2.1))])] (leHk h [])) : impl_IsCleared.S ar h (impl_IsCleared.res a0 y) (impl_IsCleared.out a0 y) := ⟨a0, y, H, (args_ok h0).1, (args_ok h0).2, rfl, rfl⟩
theorem impl_IsCleared.spec (a0 y) (H : impl_IsCleared a0 = some y) : Spec Tryz.prog 137 [(.agg [(.v (.int .i64 a0.1)), (.tree ty_Slot a0.2.1), (.v (.int .i64 a0.2.2.1)), (.v (.int .i64 a0.2.2.2.1)), (.v (.int .i64 a0.2.2.2.2.1))])] [] (impl_IsCleared.res a0 y) (impl_IsCleared.out a0 y) := by
  refine spec_intro (G98_ok.at tok []) (ct := [(4, some [1, 4, 17, 18, 19])]) Tryz.func137 rfl (by kernel_rfl) (by kernel_rfl) rfl ?_
  repeat' first
    | ((with_reducible refine eqg ?_); exact rfl)
    | ((with_reducible refine KOb.mk ?_); kernel_rfl)
    | ((with_reducible intro h); (repeat first | replace H := grd_k H | replace H := out_step H ‹_›); first | replace H := cond_t h H | replace H := cond_f h H | exact absurd h (by decide) | skip)
    | ((with_reducible refine Ob.mk ?_); first | (with_reducible rfl) | (first | ((repeat (first | (with_reducible exact grd_p H) | replace H := grd_k H | replace H := out_step H ‹_›)); done) | rfl | ((repeat (first | exact grd_p H | (have hp := grd_p H; exact hp) | replace H := grd_k H | replace H := out_step H ‹_› | (replace H := bind_some H; obtain ⟨_, _, H⟩ := H))); done) | (repeat (first | exact grd_p H | replace H := grd_k H | replace H := out_step H ‹_›))))
    | (with_reducible exact True.intro)
    | ((conv => whnf); first
        | (with_reducible refine And.intro ?_ ?_)
        | (with_reducible exact True.intro)
        | (with_reducible refine (?_ : Ob _))
        | ((with_reducible refine CallW.mk ?_); (repeat first | replace H := grd_k H | replace H := out_step H ‹_›); replace H := bind_some H; obtain ⟨y, hy, H⟩ := H; first | ((with_reducible have hz : impl_IsRopeway _ = some y := hy); clear hz; refine ⟨_, _, impl_IsRopeway.call hy ?_, rfl, rfl, ?_⟩) | ((with_reducible have hz : impl_Ropeway_peopleOn _ = some y := hy); clear hz; refine ⟨_, _, impl_Ropeway_peopleOn.call hy ?_, rfl, rfl, ?_⟩))
        | ((with_reducible refine fin_mk ?_); (repeat first | replace H := grd_k H | replace H := out_step H ‹_›); have H := Option.some.inj H; subst H))
    | constructor
def G99 : Env := G98.add 137 [] impl_IsCleared.S
theorem G99_ok : EnvOk Tryz.prog G99 := G98_ok.add ent_137 fun ar h r h1 ⟨a0, y, hy, e1, e2, e3, e4⟩ => by
  subst e3 e4; exact (impl_IsCleared.spec a0 y hy).le e1 e2
attribute [local irreducible] impl_IsCleared

noncomputable def impl_ask (a0 : Ropeway) (a1 : ByteArray) (a2 : (List Int)) : Option (ByteArray × Bool) :=
  (cond (decide ((a2.length : Int) = (1 : Int))) (cond (decide (a1 = (ByteArray.mk #[99, 97, 98, 105, 110]))) (grd (0 ≤ (0 : Int) ∧ (0 : Int) < (a2.length : Int)) ((impl_CabinAt (a0.1, a0.2.1, a0.2.2.1, a0.2.2.2.1, a0.2.2.2.2.1, ()) (a2.getD ((0 : Int).toNat) 0)).bind fun y1 => ((strconv_Itoa y1.1).bind fun y2 => (some (y2, y1.2))))) (cond (decide (a1 = (ByteArray.mk #[117, 112]))) (grd (0 ≤ (0 : Int) ∧ (0 : Int) < (a2.length : Int)) ((impl_TurnsTo (a0.1, a0.2.1, a0.2.2.1, a0.2.2.2.1, a0.2.2.2.2.1, ()) (a2.getD ((0 : Int).toNat) 0) true).bind fun y3 => ((strconv_Itoa y3.1).bind fun y4 => (some (y4, y3.2))))) (cond (decide (a1 = (ByteArray.mk #[100, 111, 119, 110]))) (grd (0 ≤ (0 : Int) ∧ (0 : Int) < (a2.length : Int)) ((impl_TurnsTo (a0.1, a0.2.1, a0.2.2.1, a0.2.2.2.1, a0.2.2.2.2.1, ()) (a2.getD ((0 : Int).toNat) 0) false).bind fun y5 => ((strconv_Itoa y5.1).bind fun y6 => (some (y6, y5.2))))) ((strconv_Itoa (0 : Int)).bind fun y7 => (some (y7, false)))))) (cond (decide ((0 : Int) < (a2.length : Int))) ((some ((ByteArray.mk #[]), false))) (cond (decide (a1 = (ByteArray.mk #[112, 101, 111, 112, 108, 101]))) ((impl_Ropeway_peopleOn (a0.1, a0.2.1, a0.2.2.1, a0.2.2.2.1, a0.2.2.2.2.1, ())).bind fun y8 => ((impl_listText [a0.2.2.1, y8.1, a0.2.2.2.1, a0.2.2.2.2.1]).bind fun y9 => (some (y9, true)))) (cond (decide (a1 = (ByteArray.mk #[100, 111, 111, 114, 115]))) ((impl_OpenDoors (a0.1, a0.2.1, a0.2.2.1, a0.2.2.2.1, a0.2.2.2.2.1, ())).bind (Sum.elim (fun _ => ((impl_listText []).bind fun y12 => (some (y12, false)))) (fun y13 => ((impl_listText y13).bind fun y14 => (some (y14, true)))))) (cond (decide (a1 = (ByteArray.mk #[99, 108, 101, 97, 114]))) ((impl_IsCleared (a0.1, a0.2.1, a0.2.2.1, a0.2.2.2.1, a0.2.2.2.2.1, ())).bind fun y15 => (cond y15.1 ((some ((ByteArray.mk #[121, 101, 115]), true))) ((some ((ByteArray.mk #[110, 111]), true))))) ((some ((ByteArray.mk #[]), false))))))))
def impl_ask.res (_ : Ropeway) (_ : ByteArray) (_ : (List Int)) (y : ByteArray × Bool) : AV := (.tup [(.v (.string y.1)), (.bl y.2)])
def impl_ask.out (_ : Ropeway) (_ : ByteArray) (_ : (List Int)) (_ : ByteArray × Bool) : List (Option LB) := []
def impl_ask.S (ar : List AV) (h : List (Option LB)) (r : AV) (h1 : List (Option LB)) : Prop := ∃ a0 a1 a2 y, impl_ask a0 a1 a2 = some y ∧ leL ar [(.agg [(.v (.int .i64 a0.1)), (.tree ty_Slot a0.2.1), (.v (.int .i64 a0.2.2.1)), (.v (.int .i64 a0.2.2.2.1)), (.v (.int .i64 a0.2.2.2.2.1))]), (.v (.string a1)), (.tree (.int .i64) a2)] ∧ leH h [] ∧ r = impl_ask.res a0 a1 a2 y ∧ h1 = impl_ask.out a0 a1 a2 y
theorem impl_ask.call {ar h a0 a1 a2 y} (H : impl_ask a0 a1 a2 = some y) (h0 : leLk ar [(.agg [(.v (.int .i64 a0.1)), (.tree ty_Slot a0.2.1), (.v (.int .i64 a0.2.2.1)), (.v (.int .i64 a0.2.2.2.1)), (.v (.int .i64 a0.2.2.2.2.1))]), (.v (.string a1)), (.tree (.int .i64) a2)] (leHk h [])) : impl_ask.S ar h (impl_ask.res a0 a1 a2 y) (impl_ask.out a0 a1 a2 y) := ⟨a0, a1, a2, y, H, (args_ok h0).1, (args_ok h0).2, rfl, rfl⟩
theorem impl_ask.spec (a0 a1 a2 y) (H : impl_ask a0 a1 a2 = some y) : Spec Tryz.prog 91 [(.agg [(.v (.int .i64 a0.1)), (.tree ty_Slot a0.2.1), (.v (.int .i64 a0.2.2.1)), (.v (.int .i64 a0.2.2.2.1)), (.v (.int .i64 a0.2.2.2.2.1))]), (.v (.string a1)), (.tree (.int .i64) a2)] [] (impl_ask.res a0 a1 a2 y) (impl_ask.out a0 a1 a2 y) := by
  refine spec_intro (G99_ok.at tok []) (ct := [(9, some [2, 3, 8, 9, 40]), (10, some [8, 9]), (15, some [3, 56, 57]), (24, some []), (25, some [])]) Tryz.func91 rfl (by kernel_rfl) (by kernel_rfl) rfl ?_
  repeat' first
    | ((with_reducible refine eqg ?_); exact rfl)
    | ((with_reducible refine KOb.mk ?_); kernel_rfl)
    | ((with_reducible intro h); (repeat first | replace H := grd_k H | replace H := out_step H ‹_›); first | replace H := cond_t h H | replace H := cond_f h H | exact absurd h (by decide) | skip)
    | ((with_reducible refine Ob.mk ?_); first | (with_reducible rfl) | (first | ((repeat (first | (with_reducible exact grd_p H) | replace H := grd_k H | replace H := out_step H ‹_›)); done) | rfl | ((repeat (first | exact grd_p H | (have hp := grd_p H; exact hp) | replace H := grd_k H | replace H := out_step H ‹_› | (replace H := bind_some H; obtain ⟨_, _, H⟩ := H))); done) | (repeat (first | exact grd_p H | replace H := grd_k H | replace H := out_step H ‹_›))))
    | (with_reducible exact True.intro)
    | ((conv => whnf); first
        | (with_reducible refine And.intro ?_ ?_)
        | (with_reducible exact True.intro)
        | (with_reducible refine (?_ : Ob _))
        | ((with_reducible refine CallW.mk ?_); (repeat first | replace H := grd_k H | replace H := out_step H ‹_›); replace H := bind_some H; obtain ⟨y, hy, H⟩ := H; first | ((with_reducible have hz : impl_CabinAt _ _ = some y := hy); clear hz; refine ⟨_, _, impl_CabinAt.call hy ?_, rfl, rfl, ?_⟩) | ((with_reducible have hz : strconv_Itoa _ = some y := hy); clear hz; refine ⟨_, _, strconv_Itoa.call hy ?_, rfl, rfl, ?_⟩) | ((with_reducible have hz : impl_TurnsTo _ _ _ = some y := hy); clear hz; refine ⟨_, _, impl_TurnsTo.call hy ?_, rfl, rfl, ?_⟩) | ((with_reducible have hz : impl_Ropeway_peopleOn _ = some y := hy); clear hz; refine ⟨_, _, impl_Ropeway_peopleOn.call hy ?_, rfl, rfl, ?_⟩) | ((with_reducible have hz : impl_listText _ = some y := hy); clear hz; refine ⟨_, _, impl_listText.call hy ?_, rfl, rfl, ?_⟩) | ((with_reducible have hz : impl_OpenDoors _ = some y := hy); clear hz; rcases y with y | y <;> refine ⟨_, _, impl_OpenDoors.call hy ?_, rfl, rfl, ?_⟩) | ((with_reducible have hz : impl_IsCleared _ = some y := hy); clear hz; refine ⟨_, _, impl_IsCleared.call hy ?_, rfl, rfl, ?_⟩))
        | ((with_reducible refine fin_mk ?_); (repeat first | replace H := grd_k H | replace H := out_step H ‹_›); have H := Option.some.inj H; subst H))
    | constructor
def G100 : Env := G99.add 91 [] impl_ask.S
theorem G100_ok : EnvOk Tryz.prog G100 := G99_ok.add ent_91 fun ar h r h1 ⟨a0, a1, a2, y, hy, e1, e2, e3, e4⟩ => by
  subst e3 e4; exact (impl_ask.spec a0 a1 a2 y hy).le e1 e2
attribute [local irreducible] impl_ask

noncomputable def impl_run_loop1  (v12 : Nat) (v13 : Int) (v14 : Int) (v15 : (List ByteArray)) (v16 : (List Int)) : Option (Lp (Nat × Int × Int × (List ByteArray) × (List Int)) ((Unit) ⊕ ((List ByteArray) × (List Int)))) :=
  (cond (decide (v14 < v13)) (grd (0 ≤ v14 ∧ v14 < (v12 : Int)) ((impl_ParseInt (v15.getD (((1 : Int).toNat) + v14.toNat) (ByteArray.mk #[]))).bind fun y17 => (cond (!y17.2) ((some (.out (Sum.inl ())))) (grd (v16.length + [y17.1].length ≤ 140737488355328 / 8 ∧ v16.length + [y17.1].length ≤ 140737488355328) (some (.go (v12, v13, (w64 (v14 + (1 : Int))), v15, (v16 ++ [y17.1])))))))) ((some (.out (Sum.inr (v15, v16))))))
noncomputable def impl_run (a0 : Ropeway) (a1 : ByteArray) : Option ((Ropeway × ByteArray × (List Slot)) ⊕ (Ropeway × ByteArray × (List Slot))) :=
  ((strings_Split a1 (ByteArray.mk #[32])).bind fun y1 => (grd (0 ≤ (1 : Int) ∧ (1 : Int) ≤ (y1.length : Int) ∧ (y1.length : Int) ≤ (y1.length : Int)) ((iter (fun s => impl_run_loop1 s.1 s.2.1 s.2.2.1 s.2.2.2.1 s.2.2.2.2) ((((y1.length : Int) - (1 : Int)).toNat), ((((y1.length : Int) - (1 : Int)).toNat : Nat) : Int), (0 : Int), y1, ([] : List Int))).bind (Sum.elim (fun _ => (some (Sum.inl ((a0.1, a0.2.1, a0.2.2.1, a0.2.2.2.1, a0.2.2.2.2.1, ()), (ByteArray.mk #[63]), a0.2.1)))) (fun r20 => (grd (0 ≤ (0 : Int) ∧ (0 : Int) < (r20.1.length : Int)) ((impl_stepOf (r20.1.getD ((0 : Int).toNat) (ByteArray.mk #[])) r20.2).bind fun y21 => (cond y21.2 ((impl_Ropeway_step (a0.1, a0.2.1, a0.2.2.1, a0.2.2.2.1, a0.2.2.2.2.1, ()) (y21.1.1, y21.1.2.1, ())).bind (Sum.elim (fun _ => (some (Sum.inl ((a0.1, a0.2.1, a0.2.2.1, a0.2.2.2.1, a0.2.2.2.2.1, ()), (ByteArray.mk #[63]), a0.2.1)))) (fun y24 => ((impl_stepReply (y24.1, y24.2.1, y24.2.2.1, y24.2.2.2.1, y24.2.2.2.2.1, ()) (y21.1.1, y21.1.2.1, ())).bind fun y25 => (some (Sum.inr ((y24.1, y24.2.1, y24.2.2.1, y24.2.2.2.1, y24.2.2.2.2.1, ()), y25, a0.2.1))))))) (grd (0 ≤ (0 : Int) ∧ (0 : Int) < (r20.1.length : Int)) ((impl_ask (a0.1, a0.2.1, a0.2.2.1, a0.2.2.2.1, a0.2.2.2.2.1, ()) (r20.1.getD ((0 : Int).toNat) (ByteArray.mk #[])) r20.2).bind fun y26 => (cond y26.2 ((some (Sum.inl ((a0.1, a0.2.1, a0.2.2.1, a0.2.2.2.1, a0.2.2.2.2.1, ()), y26.1, a0.2.1)))) ((some (Sum.inl ((a0.1, a0.2.1, a0.2.2.1, a0.2.2.2.1, a0.2.2.2.2.1, ()), (ByteArray.mk #[63]), a0.2.1)))))))))))))))
def impl_run.res (_ : Ropeway) (_ : ByteArray) (y : (Ropeway × ByteArray × (List Slot)) ⊕ (Ropeway × ByteArray × (List Slot))) : AV := match y with
  | (.inl y) => (.tup [(.agg [(.v (.int .i64 y.1.1)), (.own 0), (.v (.int .i64 y.1.2.2.1)), (.v (.int .i64 y.1.2.2.2.1)), (.v (.int .i64 y.1.2.2.2.2.1))]), (.v (.string y.2.1))])
  | (.inr y) => (.tup [(.agg [(.v (.int .i64 y.1.1)), (.own 1), (.v (.int .i64 y.1.2.2.1)), (.v (.int .i64 y.1.2.2.2.1)), (.v (.int .i64 y.1.2.2.2.2.1))]), (.v (.string y.2.1))])
def impl_run.out (_ : Ropeway) (_ : ByteArray) (y : (Ropeway × ByteArray × (List Slot)) ⊕ (Ropeway × ByteArray × (List Slot))) : List (Option LB) := match y with
  | (.inl y) => [some (.arr 96 ty_Slot y.2.2)]
  | (.inr y) => [some (.arr 96 ty_Slot y.2.2), some (.arr 96 ty_Slot y.1.2.1)]
def impl_run.S (ar : List AV) (h : List (Option LB)) (r : AV) (h1 : List (Option LB)) : Prop := ∃ a0 a1 y, impl_run a0 a1 = some y ∧ leL ar [(.agg [(.v (.int .i64 a0.1)), (.own 0), (.v (.int .i64 a0.2.2.1)), (.v (.int .i64 a0.2.2.2.1)), (.v (.int .i64 a0.2.2.2.2.1))]), (.v (.string a1))] ∧ leH h [some (.arr 96 ty_Slot a0.2.1)] ∧ r = impl_run.res a0 a1 y ∧ h1 = impl_run.out a0 a1 y
theorem impl_run.call {ar h a0 a1 y} (H : impl_run a0 a1 = some y) (h0 : leLk ar [(.agg [(.v (.int .i64 a0.1)), (.own 0), (.v (.int .i64 a0.2.2.1)), (.v (.int .i64 a0.2.2.2.1)), (.v (.int .i64 a0.2.2.2.2.1))]), (.v (.string a1))] (leHk h [some (.arr 96 ty_Slot a0.2.1)])) : impl_run.S ar h (impl_run.res a0 a1 y) (impl_run.out a0 a1 y) := ⟨a0, a1, y, H, (args_ok h0).1, (args_ok h0).2, rfl, rfl⟩
theorem impl_run.spec (a0 a1 y) (H : impl_run a0 a1 = some y) : Spec Tryz.prog 48 [(.agg [(.v (.int .i64 a0.1)), (.own 0), (.v (.int .i64 a0.2.2.1)), (.v (.int .i64 a0.2.2.2.1)), (.v (.int .i64 a0.2.2.2.2.1))]), (.v (.string a1))] [some (.arr 96 ty_Slot a0.2.1)] (impl_run.res a0 a1 y) (impl_run.out a0 a1 y) := by
  have hlen : Nat.ble ([some (.arr 96 ty_Slot a0.2.1)] : List (Option LB)).length (impl_run.out a0 a1 y).length = true := by
    rcases y with y | y <;> rfl
  refine spec_intro (G100_ok.at tok []) (ct := [(8, some [2, 4, 6, 7, 10, 22, 23, 24]), (10, some [2, 4, 6, 7]), (13, some [2, 4, 12, 14, 15]), (17, some [2, 4, 16, 17])]) Tryz.func48 rfl (by kernel_rfl) (by kernel_rfl) hlen ?_
  repeat' first
    | ((with_reducible refine eqg ?_); exact rfl)
    | ((with_reducible refine KOb.mk ?_); kernel_rfl)
    | ((with_reducible intro h); (repeat first | replace H := grd_k H | replace H := out_step H ‹_›); first | replace H := cond_t h H | replace H := cond_f h H | exact absurd h (by decide) | skip)
    | ((with_reducible refine Ob.mk ?_); first | (with_reducible rfl) | (first | ((repeat (first | (with_reducible exact grd_p H) | replace H := grd_k H | replace H := out_step H ‹_›)); done) | rfl | ((repeat (first | exact grd_p H | (have hp := grd_p H; exact hp) | replace H := grd_k H | replace H := out_step H ‹_› | (replace H := bind_some H; obtain ⟨_, _, H⟩ := H))); done) | (repeat (first | exact grd_p H | replace H := grd_k H | replace H := out_step H ‹_›))))
    | (with_reducible exact True.intro)
    | ((conv => whnf); first
        | (with_reducible refine And.intro ?_ ?_)
        | (with_reducible exact True.intro)
        | (with_reducible refine (?_ : Ob _))
        | ((with_reducible refine CallW.mk ?_); (repeat first | replace H := grd_k H | replace H := out_step H ‹_›); replace H := bind_some H; obtain ⟨y, hy, H⟩ := H; first | ((with_reducible have hz : strings_Split _ _ = some y := hy); clear hz; refine ⟨_, _, strings_Split.call hy ?_, rfl, rfl, ?_⟩) | ((with_reducible have hz : impl_ParseInt _ = some y := hy); clear hz; refine ⟨_, _, impl_ParseInt.call hy ?_, rfl, rfl, ?_⟩) | ((with_reducible have hz : impl_stepOf _ _ = some y := hy); clear hz; refine ⟨_, _, impl_stepOf.call hy ?_, rfl, rfl, ?_⟩) | ((with_reducible have hz : impl_Ropeway_step _ _ = some y := hy); clear hz; rcases y with y | y <;> refine ⟨_, _, impl_Ropeway_step.call hy ?_, rfl, rfl, ?_⟩) | ((with_reducible have hz : impl_stepReply _ _ = some y := hy); clear hz; refine ⟨_, _, impl_stepReply.call hy ?_, rfl, rfl, ?_⟩) | ((with_reducible have hz : impl_ask _ _ _ = some y := hy); clear hz; refine ⟨_, _, impl_ask.call hy ?_, rfl, rfl, ?_⟩))
        | ((repeat first | replace H := grd_k H | replace H := out_step H ‹_›); refine loop_iter (G100_ok.at tok []) (ct := [(8, some [2, 4, 6, 7, 10, 22, 23, 24]), (10, some [2, 4, 6, 7]), (13, some [2, 4, 12, 14, 15]), (17, some [2, 4, 16, 17])]) (F := (fun s1 : Nat × Int × Int × (List ByteArray) × (List Int) => ⟨sl [(2, (.loc 1 0 0)), (4, (.loc 2 0 0)), (6, (.own 3)), (7, (.own 4)), (22, (.view 3 ((1 : Int).toNat) s1.1)), (23, (.v (.int .i64 s1.2.1))), (24, (.v (.int .i64 s1.2.2.1)))], [some (.arr 96 ty_Slot a0.2.1), some (.box 38 [(.v (.int .i64 a0.1)), (.own 0), (.v (.int .i64 a0.2.2.1)), (.v (.int .i64 a0.2.2.2.1)), (.v (.int .i64 a0.2.2.2.2.1))]), some (.box 38 [(.v (.int .i64 (0 : Int))), (.v (.slice none 0 0)), (.v (.int .i64 (0 : Int))), (.v (.int .i64 (0 : Int))), (.v (.int .i64 (0 : Int)))]), some (.arr 9 .str s1.2.2.2.1), some (.arr 3 (.int .i64) s1.2.2.2.2)]⟩)) (step := (fun s : Nat × Int × Int × (List ByteArray) × (List Int) => impl_run_loop1 s.1 s.2.1 s.2.2.1 s.2.2.2.1 s.2.2.2.2)) _ H (by kernel_rfl) (sub_auto ?_) ?_; rotate_left; (intro s1 r v hr H); rotate_right)
        | ((repeat first | replace H := grd_k H | replace H := out_step H ‹_›); refine again_step H (by assumption) (sub_auto ?_))
        | ((with_reducible refine fin_mk ?_); (repeat first | replace H := grd_k H | replace H := out_step H ‹_›); have H := Option.some.inj H; subst H))
    | constructor
def G101 : Env := G100.add 48 [true] impl_run.S
theorem G101_ok : EnvOk Tryz.prog G101 := G100_ok.add ent_48 fun ar h r h1 ⟨a0, a1, y, hy, e1, e2, e3, e4⟩ => by
  subst e3 e4; exact (impl_run.spec a0 a1 y hy).le e1 e2
attribute [local irreducible] impl_run

noncomputable def impl_encodeRecord (a0 : Int) (a1 : LogRecord) : Option (ByteArray) :=
  ((strconv_Itoa a0).bind fun y1 => (grd (y1.size + (ByteArray.mk #[32]).size ≤ 9223372036854775807) (grd ((y1 ++ (ByteArray.mk #[32])).size + a1.1.size ≤ 9223372036854775807) (grd (((y1 ++ (ByteArray.mk #[32])) ++ a1.1).size + (ByteArray.mk #[64]).size ≤ 9223372036854775807) (grd ((((y1 ++ (ByteArray.mk #[32])) ++ a1.1) ++ (ByteArray.mk #[64])).size + a1.2.1.size ≤ 9223372036854775807) ((impl_AppendChecksum ((((y1 ++ (ByteArray.mk #[32])) ++ a1.1) ++ (ByteArray.mk #[64])) ++ a1.2.1)).bind fun y2 => (grd (y2.1.size + (ByteArray.mk #[10]).size ≤ 9223372036854775807) ((some (y2.1 ++ (ByteArray.mk #[10])))))))))))
def impl_encodeRecord.res (_ : Int) (_ : LogRecord) (y : ByteArray) : AV := (.v (.string y))
def impl_encodeRecord.out (_ : Int) (_ : LogRecord) (_ : ByteArray) : List (Option LB) := []
def impl_encodeRecord.S (ar : List AV) (h : List (Option LB)) (r : AV) (h1 : List (Option LB)) : Prop := ∃ a0 a1 y, impl_encodeRecord a0 a1 = some y ∧ leL ar [(.v (.int .i64 a0)), (.agg [(.v (.string a1.1)), (.v (.string a1.2.1))])] ∧ leH h [] ∧ r = impl_encodeRecord.res a0 a1 y ∧ h1 = impl_encodeRecord.out a0 a1 y
theorem impl_encodeRecord.call {ar h a0 a1 y} (H : impl_encodeRecord a0 a1 = some y) (h0 : leLk ar [(.v (.int .i64 a0)), (.agg [(.v (.string a1.1)), (.v (.string a1.2.1))])] (leHk h [])) : impl_encodeRecord.S ar h (impl_encodeRecord.res a0 a1 y) (impl_encodeRecord.out a0 a1 y) := ⟨a0, a1, y, H, (args_ok h0).1, (args_ok h0).2, rfl, rfl⟩
theorem impl_encodeRecord.spec (a0 a1 y) (H : impl_encodeRecord a0 a1 = some y) : Spec Tryz.prog 92 [(.v (.int .i64 a0)), (.agg [(.v (.string a1.1)), (.v (.string a1.2.1))])] [] (impl_encodeRecord.res a0 a1 y) (impl_encodeRecord.out a0 a1 y) := by
  refine spec_intro (G101_ok.at tok []) (ct := [(2, some [5])]) Tryz.func92 rfl (by kernel_rfl) (by kernel_rfl) rfl ?_
  repeat' first
    | ((with_reducible refine eqg ?_); exact rfl)
    | ((with_reducible refine KOb.mk ?_); kernel_rfl)
    | ((with_reducible intro h); (repeat first | replace H := grd_k H | replace H := out_step H ‹_›); first | replace H := cond_t h H | replace H := cond_f h H | exact absurd h (by decide) | skip)
    | ((with_reducible refine Ob.mk ?_); first | (with_reducible rfl) | (first | ((repeat (first | (with_reducible exact grd_p H) | replace H := grd_k H | replace H := out_step H ‹_›)); done) | rfl | ((repeat (first | exact grd_p H | (have hp := grd_p H; exact hp) | replace H := grd_k H | replace H := out_step H ‹_› | (replace H := bind_some H; obtain ⟨_, _, H⟩ := H))); done) | (repeat (first | exact grd_p H | replace H := grd_k H | replace H := out_step H ‹_›))))
    | (with_reducible exact True.intro)
    | ((conv => whnf); first
        | (with_reducible refine And.intro ?_ ?_)
        | (with_reducible exact True.intro)
        | (with_reducible refine (?_ : Ob _))
        | ((with_reducible refine CallW.mk ?_); (repeat first | replace H := grd_k H | replace H := out_step H ‹_›); replace H := bind_some H; obtain ⟨y, hy, H⟩ := H; first | ((with_reducible have hz : strconv_Itoa _ = some y := hy); clear hz; refine ⟨_, _, strconv_Itoa.call hy ?_, rfl, rfl, ?_⟩) | ((with_reducible have hz : impl_AppendChecksum _ = some y := hy); clear hz; refine ⟨_, _, impl_AppendChecksum.call hy ?_, rfl, rfl, ?_⟩))
        | ((with_reducible refine fin_mk ?_); (repeat first | replace H := grd_k H | replace H := out_step H ‹_›); have H := Option.some.inj H; subst H))
    | constructor
def G102 : Env := G101.add 92 [] impl_encodeRecord.S
theorem G102_ok : EnvOk Tryz.prog G102 := G101_ok.add ent_92 fun ar h r h1 ⟨a0, a1, y, hy, e1, e2, e3, e4⟩ => by
  subst e3 e4; exact (impl_encodeRecord.spec a0 a1 y hy).le e1 e2
attribute [local irreducible] impl_encodeRecord

end Go.Proofs.YtaobinhdnklojaaGreatDoor
namespace Go.Proofs.YtaobinhdnklojaaGreatDoor
open Go.RowKit
attribute [local irreducible] Ob loopwp Sub Spec Fin Again CallW CutC KOb iter

attribute [local irreducible] spec_l1Num_f impl_copyRopeway impl_IsValidRecord impl_IsValidLog impl_IsValidConsole slices_IndexFunc___impl_Slot_impl_Slot__i2 slices_IndexFunc___impl_Slot_impl_Slot__i3 slices_ContainsFunc___impl_Slot_impl_Slot__i2 slices_Clone___impl_Slot_impl_Slot__i1 impl_copyRopeway_i1 impl_run impl_encodeRecord

noncomputable def impl_AppendRecord (a0 : Log) (a1 : LogRecord) : Option (Log × Int) :=
  ((impl_IsValidLog (a0.1, a0.2.1, a0.2.2.1, ())).bind fun y1 => (cond (!y1) ((some ((a0.1, a0.2.1, a0.2.2.1, ()), (1 : Int)))) ((impl_IsValidRecord (a1.1, a1.2.1, ())).bind fun y2 => (cond (!y2) ((some ((a0.1, a0.2.1, a0.2.2.1, ()), (1 : Int)))) (cond (decide (a0.2.2.1 = (60 : Int))) ((some ((a0.1, a0.2.1, a0.2.2.1, ()), (2 : Int)))) ((impl_encodeRecord a0.2.2.1 (a1.1, a1.2.1, ())).bind fun y3 => (grd (a0.2.1.size + y3.size ≤ 9223372036854775807) ((some ((a0.1, (a0.2.1 ++ y3), (w64 (a0.2.2.1 + (1 : Int))), ()), (0 : Int)))))))))))
def impl_AppendRecord.res (_ : Log) (_ : LogRecord) (y : Log × Int) : AV := (.tup [(.agg [(.v (.string y.1.1)), (.v (.string y.1.2.1)), (.v (.int .i64 y.1.2.2.1))]), (.v (.int .i64 y.2))])
def impl_AppendRecord.out (_ : Log) (_ : LogRecord) (_ : Log × Int) : List (Option LB) := []
def impl_AppendRecord.S (ar : List AV) (h : List (Option LB)) (r : AV) (h1 : List (Option LB)) : Prop := ∃ a0 a1 y, impl_AppendRecord a0 a1 = some y ∧ leL ar [(.agg [(.v (.string a0.1)), (.v (.string a0.2.1)), (.v (.int .i64 a0.2.2.1))]), (.agg [(.v (.string a1.1)), (.v (.string a1.2.1))])] ∧ leH h [] ∧ r = impl_AppendRecord.res a0 a1 y ∧ h1 = impl_AppendRecord.out a0 a1 y
theorem impl_AppendRecord.call {ar h a0 a1 y} (H : impl_AppendRecord a0 a1 = some y) (h0 : leLk ar [(.agg [(.v (.string a0.1)), (.v (.string a0.2.1)), (.v (.int .i64 a0.2.2.1))]), (.agg [(.v (.string a1.1)), (.v (.string a1.2.1))])] (leHk h [])) : impl_AppendRecord.S ar h (impl_AppendRecord.res a0 a1 y) (impl_AppendRecord.out a0 a1 y) := ⟨a0, a1, y, H, (args_ok h0).1, (args_ok h0).2, rfl, rfl⟩
set_option maxHeartbeats 100000000 in
set_option maxRecDepth 100000 in
theorem impl_AppendRecord.spec (a0 a1 y) (H : impl_AppendRecord a0 a1 = some y) : Spec Tryz.prog 49 [(.agg [(.v (.string a0.1)), (.v (.string a0.2.1)), (.v (.int .i64 a0.2.2.1))]), (.agg [(.v (.string a1.1)), (.v (.string a1.2.1))])] [] (impl_AppendRecord.res a0 a1 y) (impl_AppendRecord.out a0 a1 y) := by
  refine spec_intro (G102_ok.at tok []) (ct := [(4, some [2, 3, 4, 16]), (5, some [2, 3, 4])]) Tryz.func49 rfl (by kernel_rfl) (by kernel_rfl) rfl ?_
  repeat' first
    | ((with_reducible refine eqg ?_); exact rfl)
    | ((with_reducible refine KOb.mk ?_); kernel_rfl)
    | ((with_reducible intro h); (repeat first | replace H := grd_k H | replace H := out_step H ‹_›); first | replace H := cond_t h H | replace H := cond_f h H | exact absurd h (by decide) | skip)
    | ((with_reducible refine Ob.mk ?_); first | (with_reducible rfl) | (first | ((repeat (first | (with_reducible exact grd_p H) | replace H := grd_k H | replace H := out_step H ‹_›)); done) | rfl | ((repeat (first | exact grd_p H | (have hp := grd_p H; exact hp) | replace H := grd_k H | replace H := out_step H ‹_› | (replace H := bind_some H; obtain ⟨_, _, H⟩ := H))); done) | (repeat (first | exact grd_p H | replace H := grd_k H | replace H := out_step H ‹_›))))
    | (with_reducible exact True.intro)
    | ((conv => whnf); first
        | (with_reducible refine And.intro ?_ ?_)
        | (with_reducible exact True.intro)
        | (with_reducible refine (?_ : Ob _))
        | ((with_reducible refine CallW.mk ?_); (repeat first | replace H := grd_k H | replace H := out_step H ‹_›); replace H := bind_some H; obtain ⟨y, hy, H⟩ := H; first | ((with_reducible have hz : impl_IsValidLog _ = some y := hy); clear hz; refine ⟨_, _, impl_IsValidLog.call hy ?_, rfl, rfl, ?_⟩) | ((with_reducible have hz : impl_IsValidRecord _ = some y := hy); clear hz; refine ⟨_, _, impl_IsValidRecord.call hy ?_, rfl, rfl, ?_⟩) | ((with_reducible have hz : impl_encodeRecord _ _ = some y := hy); clear hz; refine ⟨_, _, impl_encodeRecord.call hy ?_, rfl, rfl, ?_⟩))
        | ((with_reducible refine fin_mk ?_); (repeat first | replace H := grd_k H | replace H := out_step H ‹_›); have H := Option.some.inj H; subst H))
    | constructor
def G103 : Env := G102.add 49 [] impl_AppendRecord.S
theorem G103_ok : EnvOk Tryz.prog G103 := G102_ok.add ent_49 fun ar h r h1 ⟨a0, a1, y, hy, e1, e2, e3, e4⟩ => by
  subst e3 e4; exact (impl_AppendRecord.spec a0 a1 y hy).le e1 e2
attribute [local irreducible] impl_AppendRecord

noncomputable def impl_ExecuteCommand (a0 : Console) (a1 : ByteArray) : Option (Console × ByteArray × (List Slot)) :=
  (((impl_copyRopeway (a0.1.1, a0.1.2.1, a0.1.2.2.1, a0.1.2.2.2.1, a0.1.2.2.2.2.1, ())).bind fun y1 => (some ((Tg.mk : Tg 1), y1.2, y1.1.1, y1.1.2.2.1, y1.1.2.2.2.1, y1.1.2.2.2.2.1, y1.1.2.1))).bind fun z2 => ((impl_IsValidConsole ((a0.1.1, z2.2.1, a0.1.2.2.1, a0.1.2.2.2.1, a0.1.2.2.2.2.1, ()), (a0.2.1.1, a0.2.1.2.1, a0.2.1.2.2.1, ()), ())).bind fun y3 => (cond (!y3) ((some (((z2.2.2.1, z2.2.2.2.2.2.2, z2.2.2.2.1, z2.2.2.2.2.1, z2.2.2.2.2.2.1, ()), (a0.2.1.1, a0.2.1.2.1, a0.2.1.2.2.1, ()), ()), (ByteArray.mk #[110, 111]), z2.2.1))) ((impl_IsValidRecord (a1, (ByteArray.mk #[]), ())).bind fun y4 => (cond (!y4) ((some (((z2.2.2.1, z2.2.2.2.2.2.2, z2.2.2.2.1, z2.2.2.2.2.1, z2.2.2.2.2.2.1, ()), (a0.2.1.1, a0.2.1.2.1, a0.2.1.2.2.1, ()), ()), (ByteArray.mk #[98, 97, 100]), z2.2.1))) (cond (decide (a0.2.1.2.2.1 = (60 : Int))) ((some (((z2.2.2.1, z2.2.2.2.2.2.2, z2.2.2.2.1, z2.2.2.2.2.1, z2.2.2.2.2.2.1, ()), (a0.2.1.1, a0.2.1.2.1, a0.2.1.2.2.1, ()), ()), (ByteArray.mk #[102, 117, 108, 108]), z2.2.1))) (((impl_run (z2.2.2.1, z2.2.2.2.2.2.2, z2.2.2.2.1, z2.2.2.2.2.1, z2.2.2.2.2.2.1, ()) a1).bind (Sum.elim (fun y6 => (some ((Tg.mk : Tg 2), y6.2.1, z2.2.1, y6.1.1, y6.1.2.2.1, y6.1.2.2.2.1, y6.1.2.2.2.2.1, y6.2.2))) (fun y7 => (some ((Tg.mk : Tg 2), y7.2.1, z2.2.1, y7.1.1, y7.1.2.2.1, y7.1.2.2.2.1, y7.1.2.2.2.2.1, y7.1.2.1))))).bind fun z8 => ((cond (decide ((200 : Int) < (z8.2.1.size : Int))) ((some ((ByteArray.mk #[108, 111, 110, 103]), z8.2.2.1, z8.2.2.2.1, z8.2.2.2.2.1, z8.2.2.2.2.2.1, z8.2.2.2.2.2.2.1, z8.2.2.2.2.2.2.2))) ((some (z8.2.1, z8.2.2.1, z8.2.2.2.1, z8.2.2.2.2.1, z8.2.2.2.2.2.1, z8.2.2.2.2.2.2.1, z8.2.2.2.2.2.2.2)))).bind fun z9 => ((impl_AppendRecord (a0.2.1.1, a0.2.1.2.1, a0.2.1.2.2.1, ()) (a1, z9.1, ())).bind fun y10 => (some (((z9.2.2.1, z9.2.2.2.2.2.2, z9.2.2.2.1, z9.2.2.2.2.1, z9.2.2.2.2.2.1, ()), (y10.1.1, y10.1.2.1, y10.1.2.2.1, ()), ()), z9.1, z9.2.1)))))))))))
attribute [local irreducible] impl_ExecuteCommand

end Go.Proofs.YtaobinhdnklojaaGreatDoor
namespace Go.Proofs.YtaobinhdnklojaaGreatDoor
open Go.RowKit
attribute [local irreducible] Ob loopwp Sub Spec Fin Again CallW CutC KOb iter

attribute [local irreducible] spec_l1Num_f slices_IndexFunc___impl_Slot_impl_Slot__i2 slices_IndexFunc___impl_Slot_impl_Slot__i3 slices_ContainsFunc___impl_Slot_impl_Slot__i2 slices_Clone___impl_Slot_impl_Slot__i1 impl_copyRopeway_i1

end Go.Proofs.YtaobinhdnklojaaGreatDoor
