/-
  Contracts, printed by a program.
-/
import Derived.Test.YtaobinhdnklojaaGreatDoorC8014
namespace Go.Proofs.YtaobinhdnklojaaGreatDoor
open Go.RowKit
set_option maxHeartbeats 100000000
set_option maxRecDepth 100000
attribute [local irreducible] Ob l5 Sub Spec Fin Again CallW CutC KOb iter

attribute [local irreducible] slNf iw iIR sCiS1 sIFi iRcA1 iRsO sIFi1

noncomputable def sCFi (a0 : (List Slot)) : Option (Bool) :=
 ((sIFi1 a0).bind fun y1 => (some (decide ((0 : Int) ≤ y1))))
def sCFi.res (_ : (List Slot)) (y : Bool) : AV := (.bl y)
def sCFi.out (_ : (List Slot)) (_ : Bool) : List (Option LB) := []
def sCFi.S (ar : List AV) (h : List (Option LB)) (r : AV) (h1 : List (Option LB)) : Prop := ∃ a0 y, sCFi a0 = some y ∧ leL ar [(.tree tS a0), (.fn 160 [])] ∧ leH h [] ∧ r = sCFi.res a0 y ∧ h1 = sCFi.out a0 y
theorem sCFi.call {ar h a0 y} (H : sCFi a0 = some y) (h0 : leLk ar [(.tree tS a0), (.fn 160 [])] (leHk h [])) : sCFi.S ar h (sCFi.res a0 y) (sCFi.out a0 y) := ⟨a0, y, H, (ao h0).1, (ao h0).2, rfl, rfl⟩
theorem sCFi.spec (a0 y) (H : sCFi a0 = some y) : Spec Tryz.prog 125 [(.tree tS a0), (.fn 160 [])] [] (sCFi.res a0 y) (sCFi.out a0 y) := by
 refine si (G84_ok.at tok []) (ct := []) Tryz.func125 rfl (by kernel_rfl) (by kernel_rfl) rfl ?_
 repeat' first
  | ((with_reducible refine eqg ?_); exact rfl)
  | ((with_reducible refine KOb.mk ?_); kernel_rfl)
  | ((with_reducible intro h); (repeat first | replace H := grd_k H | replace H := os1 H ‹_›); first | replace H := ct1 h H | replace H := cf1 h H | exact absurd h (by decide) | skip)
  | ((with_reducible refine Ob.mk ?_); first | (with_reducible rfl) | (first | ((repeat (first | (with_reducible exact grd_p H) | replace H := grd_k H | replace H := os1 H ‹_›)); done) | rfl | ((repeat (first | exact grd_p H | (have hp := grd_p H; exact hp) | replace H := grd_k H | replace H := os1 H ‹_› | (replace H := bind_some H; obtain ⟨_, _, H⟩ := H))); done) | (repeat (first | exact grd_p H | replace H := grd_k H | replace H := os1 H ‹_›))))
  | (with_reducible exact True.intro)
  | ((conv => whnf); first
      | (with_reducible refine And.intro ?_ ?_)
      | (with_reducible exact True.intro)
      | (with_reducible refine (?_ : Ob _))
      | ((with_reducible refine CallW.mk ?_); (repeat first | replace H := grd_k H | replace H := os1 H ‹_›); replace H := bind_some H; obtain ⟨y, hy, H⟩ := H; first | ((with_reducible have hz : sIFi1 _ = some y := hy); clear hz; refine Exists.intro _ (Exists.intro _ ⟨Or.inl (sIFi1.call hy ?_), rfl, rfl, ?_⟩)))
      | ((with_reducible refine fm ?_); (repeat first | replace H := grd_k H | replace H := os1 H ‹_›); have H := Option.some.inj H; subst H))
  | constructor
 all_goals exact viewz _ _
def G85 : Env := G84.addOr 125 [] sCFi.S
theorem G85_ok : EnvOk Tryz.prog G85 := G84_ok.addOr ent_125 fun ar h r h1 ⟨a0, y, hy, e1, e2, e3, e4⟩ => by
 subst e3 e4; exact (sCFi.spec a0 y hy).le e1 e2
attribute [local irreducible] sCFi

noncomputable def iRa (a0 : R1) (a1 : RS1) : Option ((Bool × R1) ⊕ (Bool × R1)) :=
 (cond (decide (a1.1 = (1 : Int))) (cond (!decide (a1.2.1 = a0.1)) (cond (!decide (a0.1 = (3 : Int))) (cond (!decide (a1.2.1 = (2 : Int))) ((some (Sum.inl (true, (a1.2.1, a0.2.1, a0.2.2.1, a0.2.2.2.1, a0.2.2.2.2.1, ()))))) ((some (Sum.inl ((decide (a0.1 = (1 : Int))), (a1.2.1, a0.2.1, a0.2.2.1, a0.2.2.2.1, a0.2.2.2.2.1, ())))))) (cond (decide (a1.2.1 = (0 : Int))) (cond (!decide (a1.2.1 = (2 : Int))) ((some (Sum.inl (true, (a1.2.1, a0.2.1, a0.2.2.1, a0.2.2.2.1, a0.2.2.2.2.1, ()))))) ((some (Sum.inl ((decide (a0.1 = (1 : Int))), (a1.2.1, a0.2.1, a0.2.2.1, a0.2.2.2.1, a0.2.2.2.2.1, ())))))) ((some (Sum.inl (false, (a1.2.1, a0.2.1, a0.2.2.1, a0.2.2.2.1, a0.2.2.2.2.1, ()))))))) ((some (Sum.inl (false, (a1.2.1, a0.2.1, a0.2.2.1, a0.2.2.2.1, a0.2.2.2.2.1, ())))))) (cond (decide (a1.1 = (2 : Int))) ((sCFi a0.2.1).bind fun y1 => ((grd (0 ≤ (w64 ((a0.2.1.length : Int) - (1 : Int))) ∧ (w64 ((a0.2.1.length : Int) - (1 : Int))) ≤ (a0.2.1.length : Int) ∧ (a0.2.1.length : Int) ≤ (a0.2.1.length : Int)) (grd (0 ≤ (0 : Int) ∧ (0 : Int) ≤ (w64 ((a0.2.1.length : Int) - (1 : Int))) ∧ (w64 ((a0.2.1.length : Int) - (1 : Int))) ≤ (a0.2.1.length : Int)) ((sCiS1 [((a0.2.1.drop ((w64 ((a0.2.1.length : Int) - (1 : Int))).toNat)).take (((a0.2.1.length : Int) - (w64 ((a0.2.1.length : Int) - (1 : Int)))).toNat)), ((a0.2.1.drop ((0 : Int).toNat)).take (((w64 ((a0.2.1.length : Int) - (1 : Int))) - (0 : Int)).toNat))]).bind fun y2 => (some ((Tg.mk : Tg 1), y1, y2))))).bind fun z3 => (cond (decide (a1.2.1 = (0 : Int))) (cond (!z3.2.1) (cond (decide (a0.1 = (1 : Int))) ((some (Sum.inr (true, (a0.1, z3.2.2, a0.2.2.1, a0.2.2.2.1, a0.2.2.2.2.1, ()))))) ((some (Sum.inr ((decide (a0.1 = (2 : Int))), (a0.1, z3.2.2, a0.2.2.1, a0.2.2.2.1, a0.2.2.2.2.1, ())))))) ((some (Sum.inr (false, (a0.1, z3.2.2, a0.2.2.1, a0.2.2.2.1, a0.2.2.2.2.1, ())))))) ((some (Sum.inr (false, (a0.1, z3.2.2, a0.2.2.1, a0.2.2.2.1, a0.2.2.2.2.1, ())))))))) (cond (decide (a1.1 = (3 : Int))) (cond (decide (a0.1 = (0 : Int))) ((iw a1.2.1 (1 : Int) (20 : Int)).bind fun y4 => (cond y4 (grd (0 ≤ (0 : Int) ∧ (0 : Int) < (a0.2.1.length : Int)) (cond (decide (((a0.2.1.getD ((0 : Int).toNat) dS).1) = (0 : Int))) ((iRcA1 (a0.1, a0.2.1, a0.2.2.1, a0.2.2.2.1, a0.2.2.2.2.1, ()) a1.2.1).bind fun y5 => (grd (0 ≤ (0 : Int) ∧ (0 : Int) < (a0.2.1.length : Int)) ((some (Sum.inl ((decide (y5 < (0 : Int))), (a0.1, (a0.2.1.set ((0 : Int).toNat) (a1.2.1, false, (0 : Int), ())), a0.2.2.1, a0.2.2.2.1, a0.2.2.2.2.1, ()))))))) (grd (0 ≤ (0 : Int) ∧ (0 : Int) < (a0.2.1.length : Int)) ((some (Sum.inl (false, (a0.1, (a0.2.1.set ((0 : Int).toNat) (a1.2.1, false, (0 : Int), ())), a0.2.2.1, a0.2.2.2.1, a0.2.2.2.2.1, ())))))))) (grd (0 ≤ (0 : Int) ∧ (0 : Int) < (a0.2.1.length : Int)) ((some (Sum.inl (false, (a0.1, (a0.2.1.set ((0 : Int).toNat) (a1.2.1, false, (0 : Int), ())), a0.2.2.1, a0.2.2.2.1, a0.2.2.2.2.1, ())))))))) (grd (0 ≤ (0 : Int) ∧ (0 : Int) < (a0.2.1.length : Int)) ((some (Sum.inl (false, (a0.1, (a0.2.1.set ((0 : Int).toNat) (a1.2.1, false, (0 : Int), ())), a0.2.2.1, a0.2.2.2.1, a0.2.2.2.2.1, ()))))))) (cond (decide (a1.1 = (4 : Int))) (cond (decide (a1.2.1 = (0 : Int))) (cond (decide (a0.1 = (0 : Int))) (grd (0 ≤ (0 : Int) ∧ (0 : Int) < (a0.2.1.length : Int)) (cond (decide ((0 : Int) < ((a0.2.1.getD ((0 : Int).toNat) dS).1))) (grd (0 ≤ (0 : Int) ∧ (0 : Int) < (a0.2.1.length : Int)) (grd (0 ≤ (0 : Int) ∧ (0 : Int) < (a0.2.1.length : Int)) ((some (Sum.inl ((decide (((a0.2.1.getD ((0 : Int).toNat) dS).2.2.1) = (0 : Int))), (a0.1, (a0.2.1.set ((0 : Int).toNat) ((0 : Int), false, (0 : Int), ())), a0.2.2.1, a0.2.2.2.1, a0.2.2.2.2.1, ()))))))) (grd (0 ≤ (0 : Int) ∧ (0 : Int) < (a0.2.1.length : Int)) ((some (Sum.inl (false, (a0.1, (a0.2.1.set ((0 : Int).toNat) ((0 : Int), false, (0 : Int), ())), a0.2.2.1, a0.2.2.2.1, a0.2.2.2.2.1, ())))))))) (grd (0 ≤ (0 : Int) ∧ (0 : Int) < (a0.2.1.length : Int)) ((some (Sum.inl (false, (a0.1, (a0.2.1.set ((0 : Int).toNat) ((0 : Int), false, (0 : Int), ())), a0.2.2.1, a0.2.2.2.1, a0.2.2.2.2.1, ()))))))) (grd (0 ≤ (0 : Int) ∧ (0 : Int) < (a0.2.1.length : Int)) ((some (Sum.inl (false, (a0.1, (a0.2.1.set ((0 : Int).toNat) ((0 : Int), false, (0 : Int), ())), a0.2.2.1, a0.2.2.2.1, a0.2.2.2.2.1, ()))))))) ((iw a1.2.1 (0 : Int) (1 : Int)).bind fun y6 => (cond (!y6) ((some (Sum.inl (false, (a0.1, a0.2.1, a0.2.2.1, a0.2.2.2.1, a0.2.2.2.2.1, ()))))) ((iRsO (a0.1, a0.2.1, a0.2.2.1, a0.2.2.2.1, a0.2.2.2.2.1, ()) a1.2.1).bind fun y7 => (grd (0 ≤ y7 ∧ y7 < (a0.2.1.length : Int)) (cond (decide (a1.1 = (7 : Int))) (cond (decide ((0 : Int) < (((a0.2.1.set y7.toNat ((a0.2.1.getD y7.toNat dS).1, (!((a0.2.1.getD y7.toNat dS).2.1)), (a0.2.1.getD y7.toNat dS).2.2.1, ())).getD y7.toNat dS).1))) ((some (Sum.inl ((!decide (a0.1 = (2 : Int))), (a0.1, (a0.2.1.set y7.toNat ((a0.2.1.getD y7.toNat dS).1, (!((a0.2.1.getD y7.toNat dS).2.1)), (a0.2.1.getD y7.toNat dS).2.2.1, ())), a0.2.2.1, a0.2.2.2.1, a0.2.2.2.2.1, ()))))) ((some (Sum.inl (false, (a0.1, (a0.2.1.set y7.toNat ((a0.2.1.getD y7.toNat dS).1, (!((a0.2.1.getD y7.toNat dS).2.1)), (a0.2.1.getD y7.toNat dS).2.2.1, ())), a0.2.2.1, a0.2.2.2.1, a0.2.2.2.2.1, ())))))) (cond (decide (a1.1 = (5 : Int))) ((cond (decide (a1.2.1 = (0 : Int))) ((some (y7.toNat, (w64 (a0.2.2.1 - (1 : Int))), a0.2.2.2.1))) ((some (y7.toNat, a0.2.2.1, (w64 (a0.2.2.2.1 - (1 : Int))))))).bind fun z8 => (cond (((a0.2.1.set z8.1 ((a0.2.1.getD z8.1 dS).1, (a0.2.1.getD z8.1 dS).2.1, (w64 (((a0.2.1.getD z8.1 dS).2.2.1) + (1 : Int))), ())).getD z8.1 dS).2.1) (cond (decide (a1.2.1 = (1 : Int))) ((some (Sum.inl (true, (a0.1, (a0.2.1.set z8.1 ((a0.2.1.getD z8.1 dS).1, (a0.2.1.getD z8.1 dS).2.1, (w64 (((a0.2.1.getD z8.1 dS).2.2.1) + (1 : Int))), ())), z8.2.1, z8.2.2, a0.2.2.2.2.1, ()))))) ((some (Sum.inl ((!decide (a0.1 = (3 : Int))), (a0.1, (a0.2.1.set z8.1 ((a0.2.1.getD z8.1 dS).1, (a0.2.1.getD z8.1 dS).2.1, (w64 (((a0.2.1.getD z8.1 dS).2.2.1) + (1 : Int))), ())), z8.2.1, z8.2.2, a0.2.2.2.2.1, ())))))) ((some (Sum.inl (false, (a0.1, (a0.2.1.set z8.1 ((a0.2.1.getD z8.1 dS).1, (a0.2.1.getD z8.1 dS).2.1, (w64 (((a0.2.1.getD z8.1 dS).2.2.1) + (1 : Int))), ())), z8.2.1, z8.2.2, a0.2.2.2.2.1, ()))))))) (cond (decide (a1.1 = (6 : Int))) (cond (decide (a1.2.1 = (0 : Int))) ((some (Sum.inl ((((a0.2.1.set y7.toNat ((a0.2.1.getD y7.toNat dS).1, (a0.2.1.getD y7.toNat dS).2.1, (w64 (((a0.2.1.getD y7.toNat dS).2.2.1) - (1 : Int))), ())).getD y7.toNat dS).2.1), (a0.1, (a0.2.1.set y7.toNat ((a0.2.1.getD y7.toNat dS).1, (a0.2.1.getD y7.toNat dS).2.1, (w64 (((a0.2.1.getD y7.toNat dS).2.2.1) - (1 : Int))), ())), a0.2.2.1, a0.2.2.2.1, (w64 (a0.2.2.2.2.1 + (1 : Int))), ()))))) ((some (Sum.inl ((((a0.2.1.set y7.toNat ((a0.2.1.getD y7.toNat dS).1, (a0.2.1.getD y7.toNat dS).2.1, (w64 (((a0.2.1.getD y7.toNat dS).2.2.1) - (1 : Int))), ())).getD y7.toNat dS).2.1), (a0.1, (a0.2.1.set y7.toNat ((a0.2.1.getD y7.toNat dS).1, (a0.2.1.getD y7.toNat dS).2.1, (w64 (((a0.2.1.getD y7.toNat dS).2.2.1) - (1 : Int))), ())), a0.2.2.1, (w64 (a0.2.2.2.1 + (1 : Int))), a0.2.2.2.2.1, ())))))) ((some (Sum.inl (false, (a0.1, a0.2.1, a0.2.2.1, a0.2.2.2.1, a0.2.2.2.2.1, ()))))))))))))))))
def iRa.res (_ : R1) (_ : RS1) (y : (Bool × R1) ⊕ (Bool × R1)) : AV := match y with
 | (.inl y) => (.bl y.1)
 | (.inr y) => (.bl y.1)
def iRa.out (_ : R1) (_ : RS1) (y : (Bool × R1) ⊕ (Bool × R1)) : List (Option LB) := match y with
 | (.inl y) => [some (.box 38 [(.v (.int .i64 y.2.1)), (.own 1), (.v (.int .i64 y.2.2.2.1)), (.v (.int .i64 y.2.2.2.2.1)), (.v (.int .i64 y.2.2.2.2.2.1))]), some (.arr 96 tS y.2.2.1)]
 | (.inr y) => [some (.box 38 [(.v (.int .i64 y.2.1)), (.own 2), (.v (.int .i64 y.2.2.2.1)), (.v (.int .i64 y.2.2.2.2.1)), (.v (.int .i64 y.2.2.2.2.2.1))]), none, some (.arr 96 tS y.2.2.1)]
def iRa.S (ar : List AV) (h : List (Option LB)) (r : AV) (h1 : List (Option LB)) : Prop := ∃ a0 a1 y, iRa a0 a1 = some y ∧ leL ar [(.loc 0 0 0), (.agg [(.v (.int .i64 a1.1)), (.v (.int .i64 a1.2.1))])] ∧ leH h [some (.box 38 [(.v (.int .i64 a0.1)), (.own 1), (.v (.int .i64 a0.2.2.1)), (.v (.int .i64 a0.2.2.2.1)), (.v (.int .i64 a0.2.2.2.2.1))]), some (.arr 96 tS a0.2.1)] ∧ r = iRa.res a0 a1 y ∧ h1 = iRa.out a0 a1 y
theorem iRa.call {ar h a0 a1 y} (H : iRa a0 a1 = some y) (h0 : leLk ar [(.loc 0 0 0), (.agg [(.v (.int .i64 a1.1)), (.v (.int .i64 a1.2.1))])] (leHk h [some (.box 38 [(.v (.int .i64 a0.1)), (.own 1), (.v (.int .i64 a0.2.2.1)), (.v (.int .i64 a0.2.2.2.1)), (.v (.int .i64 a0.2.2.2.2.1))]), some (.arr 96 tS a0.2.1)])) : iRa.S ar h (iRa.res a0 a1 y) (iRa.out a0 a1 y) := ⟨a0, a1, y, H, (ao h0).1, (ao h0).2, rfl, rfl⟩
theorem iRa.spec (a0 a1 y) (H : iRa a0 a1 = some y) : Spec Tryz.prog 129 [(.loc 0 0 0), (.agg [(.v (.int .i64 a1.1)), (.v (.int .i64 a1.2.1))])] [some (.box 38 [(.v (.int .i64 a0.1)), (.own 1), (.v (.int .i64 a0.2.2.1)), (.v (.int .i64 a0.2.2.2.1)), (.v (.int .i64 a0.2.2.2.2.1))]), some (.arr 96 tS a0.2.1)] (iRa.res a0 a1 y) (iRa.out a0 a1 y) := by
 have hlen : Nat.ble ([some (.box 38 [(.v (.int .i64 a0.1)), (.own 1), (.v (.int .i64 a0.2.2.1)), (.v (.int .i64 a0.2.2.2.1)), (.v (.int .i64 a0.2.2.2.2.1))]), some (.arr 96 tS a0.2.1)] : List (Option LB)).length (iRa.out a0 a1 y).length = true := by
  rcases y with y | y <;> rfl
 refine si (G85_ok.at tok []) (ct := [(10, none), (30, none), (5, some [0, 3, 6, 34, 35, 36, 37, 38, 39, 40, 43, 44, 45, 46, 47, 48, 49]), (8, some [0, 3, 5, 17, 51, 81, 82, 85, 86, 87, 88, 89, 90, 91, 92, 93, 94, 95, 96, 106, 107, 108, 111, 112, 113, 114, 115, 116, 117, 118, 121, 122, 123, 124, 125, 126, 127, 144, 145, 146, 147, 148, 151, 152, 153, 154, 155, 156, 157, 158, 161, 162, 163, 164, 165, 166, 167, 168, 210, 211, 212, 213, 214, 247, 248, 249, 250, 251, 252, 253, 254, 255, 256]), (13, some [0, 3, 8]), (17, some [0, 9]), (19, some [0, 3, 210, 211, 212, 213, 214, 247, 248, 249, 250, 251, 252, 253, 254, 255, 256]), (22, some [0, 3, 10, 210, 211, 212, 213, 214, 247, 248, 249, 250, 251, 252, 253, 254, 255, 256]), (36, some [10]), (38, some [])]) Tryz.func129 rfl (by kernel_rfl) (by kernel_rfl) hlen ?_
 repeat' first
  | ((with_reducible refine eqg ?_); exact rfl)
  | ((with_reducible refine KOb.mk ?_); kernel_rfl)
  | ((with_reducible intro h); (repeat first | replace H := grd_k H | replace H := os1 H ‹_›); first | replace H := ct1 h H | replace H := cf1 h H | exact absurd h (by decide) | skip)
  | ((with_reducible refine Ob.mk ?_); first | (with_reducible rfl) | (first | ((repeat (first | (with_reducible exact grd_p H) | replace H := grd_k H | replace H := os1 H ‹_›)); done) | rfl | ((repeat (first | exact grd_p H | (have hp := grd_p H; exact hp) | replace H := grd_k H | replace H := os1 H ‹_› | (replace H := bind_some H; obtain ⟨_, _, H⟩ := H))); done) | (repeat (first | exact grd_p H | replace H := grd_k H | replace H := os1 H ‹_›))))
  | (with_reducible exact True.intro)
  | ((conv => whnf); first
      | (with_reducible refine And.intro ?_ ?_)
      | (with_reducible exact True.intro)
      | (with_reducible refine (?_ : Ob _))
      | ((with_reducible refine CallW.mk ?_); (repeat first | replace H := grd_k H | replace H := os1 H ‹_›); replace H := bind_some H; obtain ⟨y, hy, H⟩ := H; first | ((with_reducible have hz : sCFi _ = some y := hy); clear hz; refine Exists.intro _ (Exists.intro _ ⟨Or.inl (sCFi.call hy ?_), rfl, rfl, ?_⟩)) | ((with_reducible have hz : sCiS1 _ = some y := hy); clear hz; refine ⟨_, _, sCiS1.call hy ?_, rfl, rfl, ?_⟩) | ((with_reducible have hz : iw _ _ _ = some y := hy); clear hz; refine ⟨_, _, iw.call hy ?_, rfl, rfl, ?_⟩) | ((with_reducible have hz : iRcA1 _ _ = some y := hy); clear hz; refine ⟨_, _, iRcA1.call hy ?_, rfl, rfl, ?_⟩) | ((with_reducible have hz : iRsO _ _ = some y := hy); clear hz; refine ⟨_, _, iRsO.call hy ?_, rfl, rfl, ?_⟩))
      | ((with_reducible refine cutAt (id := 10) ?_); (repeat first | replace H := grd_k H | replace H := os1 H ‹_›); first | (replace H := bind_some H; obtain ⟨z, hz, H⟩ := H; have hT : Tg 1 × Bool × (List Slot) := z; clear hT; refine CutC.mk (id := 10) ⟨sl [(0, (.loc 0 0 0)), (3, (.loc 2 0 0)), (7, (.bl z.2.1))], [some (.box 38 [(.v (.int .i64 a0.1)), (.own 3), (.v (.int .i64 a0.2.2.1)), (.v (.int .i64 a0.2.2.2.1)), (.v (.int .i64 a0.2.2.2.2.1))]), none, some (.box 120 [(.v (.int .i64 a1.1)), (.v (.int .i64 a1.2.1))]), some (.arr 96 tS z.2.2)]⟩ ?_ ?_; (replace H := hz)))
      | ((with_reducible refine cutAt (id := 30) ?_); (repeat first | replace H := grd_k H | replace H := os1 H ‹_›); first | (replace H := bind_some H; obtain ⟨z, hz, H⟩ := H; refine CutC.mk (id := 30) ⟨sl [(0, (.loc 0 0 0)), (3, (.loc 2 0 0)), (10, (.loc 1 z.1 0))], [some (.box 38 [(.v (.int .i64 a0.1)), (.own 1), (.v (.int .i64 z.2.1)), (.v (.int .i64 z.2.2)), (.v (.int .i64 a0.2.2.2.2.1))]), some (.arr 96 tS a0.2.1), some (.box 120 [(.v (.int .i64 a1.1)), (.v (.int .i64 a1.2.1))])]⟩ ?_ ?_; (replace H := hz)))
      | ((repeat first | replace H := grd_k H | replace H := os1 H ‹_›); have H := Option.some.inj H; subst H; with_reducible refine sa ?_)
      | ((with_reducible refine fm ?_); (repeat first | replace H := grd_k H | replace H := os1 H ‹_›); have H := Option.some.inj H; subst H))
  | constructor
def G86 : Env := G85.add 129 [true] iRa.S
theorem G86_ok : EnvOk Tryz.prog G86 := G85_ok.add ent_129 fun ar h r h1 ⟨a0, a1, y, hy, e1, e2, e3, e4⟩ => by
 subst e3 e4; exact (iRa.spec a0 a1 y hy).le e1 e2
attribute [local irreducible] iRa

noncomputable def sCiS (a100 : (List Slot)) : Option ((List Slot)) :=
 (grd (0 < a100.length) (grd (([] : List Slot).length + a100.length ≤ 140737488355328 / 24 ∧ ([] : List Slot).length + a100.length ≤ 140737488355328) ((some (([] : List Slot) ++ a100)))))
def sCiS.res (_ : (List Slot)) (_ : (List Slot)) : AV := (.own 0)
def sCiS.out (_ : (List Slot)) (y : (List Slot)) : List (Option LB) := [some (.arr 96 tS y)]
def sCiS.S (ar : List AV) (h : List (Option LB)) (r : AV) (h1 : List (Option LB)) : Prop := ∃ a100 y, sCiS a100 = some y ∧ leL ar [(.tree tS a100)] ∧ leH h [] ∧ r = sCiS.res a100 y ∧ h1 = sCiS.out a100 y
theorem sCiS.call {ar h a100 y} (H : sCiS a100 = some y) (h0 : leLk ar [(.tree tS a100)] (leHk h [])) : sCiS.S ar h (sCiS.res a100 y) (sCiS.out a100 y) := ⟨a100, y, H, (ao h0).1, (ao h0).2, rfl, rfl⟩
theorem sCiS.spec (a100 y) (H : sCiS a100 = some y) : Spec Tryz.prog 84 [(.tree tS a100)] [] (sCiS.res a100 y) (sCiS.out a100 y) := by
 refine si (G86_ok.at tok []) (ct := []) Tryz.func84 rfl (by kernel_rfl) (by kernel_rfl) rfl ?_
 repeat' first
  | ((with_reducible refine eqg ?_); exact rfl)
  | ((with_reducible refine KOb.mk ?_); kernel_rfl)
  | ((with_reducible intro h); (repeat first | replace H := grd_k H | replace H := os1 H ‹_›); first | replace H := ct1 h H | replace H := cf1 h H | exact absurd h (by decide) | skip)
  | ((with_reducible refine Ob.mk ?_); first | (with_reducible rfl) | (first | ((repeat (first | (with_reducible exact grd_p H) | replace H := grd_k H | replace H := os1 H ‹_›)); done) | rfl | ((repeat (first | exact grd_p H | (have hp := grd_p H; exact hp) | replace H := grd_k H | replace H := os1 H ‹_› | (replace H := bind_some H; obtain ⟨_, _, H⟩ := H))); done) | (repeat (first | exact grd_p H | replace H := grd_k H | replace H := os1 H ‹_›))))
  | (with_reducible exact True.intro)
  | ((conv => whnf); first
      | (with_reducible refine And.intro ?_ ?_)
      | (with_reducible exact True.intro)
      | (with_reducible refine (?_ : Ob _))
      | ((with_reducible refine fm ?_); (repeat first | replace H := grd_k H | replace H := os1 H ‹_›); have H := Option.some.inj H; subst H))
  | constructor
 all_goals exact viewz _ _
def G87 : Env := G86.addOr 84 [true] sCiS.S
theorem G87_ok : EnvOk Tryz.prog G87 := G86_ok.addOr ent_84 fun ar h r h1 ⟨a100, y, hy, e1, e2, e3, e4⟩ => by
 subst e3 e4; exact (sCiS.spec a100 y hy).le e1 e2
attribute [local irreducible] sCiS

noncomputable def icRi (a100 : Int) (a101 : (List Slot)) (a102 : Int) (a103 : Int) (a104 : Int) : Option (R1) :=
 ((sCiS a101).bind fun y1 => (some (a100, y1, a102, a103, a104, ())))
def icRi.res (_ : Int) (_ : (List Slot)) (_ : Int) (_ : Int) (_ : Int) (y : R1) : AV := (.agg [(.v (.int .i64 y.1)), (.own 0), (.v (.int .i64 y.2.2.1)), (.v (.int .i64 y.2.2.2.1)), (.v (.int .i64 y.2.2.2.2.1))])
def icRi.out (_ : Int) (_ : (List Slot)) (_ : Int) (_ : Int) (_ : Int) (y : R1) : List (Option LB) := [some (.arr 96 tS y.2.1)]
def icRi.S (ar : List AV) (h : List (Option LB)) (r : AV) (h1 : List (Option LB)) : Prop := ∃ a100 a101 a102 a103 a104 y, icRi a100 a101 a102 a103 a104 = some y ∧ leL ar [(.agg [(.v (.int .i64 a100)), (.tree tS a101), (.v (.int .i64 a102)), (.v (.int .i64 a103)), (.v (.int .i64 a104))])] ∧ leH h [] ∧ r = icRi.res a100 a101 a102 a103 a104 y ∧ h1 = icRi.out a100 a101 a102 a103 a104 y
theorem icRi.call {ar h a100 a101 a102 a103 a104 y} (H : icRi a100 a101 a102 a103 a104 = some y) (h0 : leLk ar [(.agg [(.v (.int .i64 a100)), (.tree tS a101), (.v (.int .i64 a102)), (.v (.int .i64 a103)), (.v (.int .i64 a104))])] (leHk h [])) : icRi.S ar h (icRi.res a100 a101 a102 a103 a104 y) (icRi.out a100 a101 a102 a103 a104 y) := ⟨a100, a101, a102, a103, a104, y, H, (ao h0).1, (ao h0).2, rfl, rfl⟩
theorem icRi.spec (a100 a101 a102 a103 a104 y) (H : icRi a100 a101 a102 a103 a104 = some y) : Spec Tryz.prog 45 [(.agg [(.v (.int .i64 a100)), (.tree tS a101), (.v (.int .i64 a102)), (.v (.int .i64 a103)), (.v (.int .i64 a104))])] [] (icRi.res a100 a101 a102 a103 a104 y) (icRi.out a100 a101 a102 a103 a104 y) := by
 refine si (G87_ok.at tok []) (ct := []) Tryz.func45 rfl (by kernel_rfl) (by kernel_rfl) rfl ?_
 repeat' first
  | ((with_reducible refine eqg ?_); exact rfl)
  | ((with_reducible refine KOb.mk ?_); kernel_rfl)
  | ((with_reducible intro h); (repeat first | replace H := grd_k H | replace H := os1 H ‹_›); first | replace H := ct1 h H | replace H := cf1 h H | exact absurd h (by decide) | skip)
  | ((with_reducible refine Ob.mk ?_); first | (with_reducible rfl) | (first | ((repeat (first | (with_reducible exact grd_p H) | replace H := grd_k H | replace H := os1 H ‹_›)); done) | rfl | ((repeat (first | exact grd_p H | (have hp := grd_p H; exact hp) | replace H := grd_k H | replace H := os1 H ‹_› | (replace H := bind_some H; obtain ⟨_, _, H⟩ := H))); done) | (repeat (first | exact grd_p H | replace H := grd_k H | replace H := os1 H ‹_›))))
  | (with_reducible exact True.intro)
  | ((conv => whnf); first
      | (with_reducible refine And.intro ?_ ?_)
      | (with_reducible exact True.intro)
      | (with_reducible refine (?_ : Ob _))
      | ((with_reducible refine CallW.mk ?_); (repeat first | replace H := grd_k H | replace H := os1 H ‹_›); replace H := bind_some H; obtain ⟨y, hy, H⟩ := H; first | ((with_reducible have hz : sCiS _ = some y := hy); clear hz; refine Exists.intro _ (Exists.intro _ ⟨Or.inl (sCiS.call hy ?_), rfl, rfl, ?_⟩)))
      | ((with_reducible refine fm ?_); (repeat first | replace H := grd_k H | replace H := os1 H ‹_›); have H := Option.some.inj H; subst H))
  | constructor
def G88 : Env := G87.addOr 45 [true] icRi.S
theorem G88_ok : EnvOk Tryz.prog G88 := G87_ok.addOr ent_45 fun ar h r h1 ⟨a100, a101, a102, a103, a104, y, hy, e1, e2, e3, e4⟩ => by
 subst e3 e4; exact (icRi.spec a100 a101 a102 a103 a104 y hy).le e1 e2
attribute [local irreducible] icRi

noncomputable def iRs (a0 : R1) (a1 : RS1) : Option ((R1) ⊕ (R1)) :=
 ((icRi a0.1 a0.2.1 a0.2.2.1 a0.2.2.2.1 a0.2.2.2.2.1).bind fun y1 => ((iRa (y1.1, y1.2.1, y1.2.2.1, y1.2.2.2.1, y1.2.2.2.2.1, ()) (a1.1, a1.2.1, ())).bind (Sum.elim (fun y3 => (cond (!y3.1) ((some (Sum.inl ((0 : Int), [], (0 : Int), (0 : Int), (0 : Int), ())))) ((iIR (y3.2.1, y3.2.2.1, y3.2.2.2.1, y3.2.2.2.2.1, y3.2.2.2.2.2.1, ())).bind fun y4 => (cond (!y4) ((some (Sum.inl ((0 : Int), [], (0 : Int), (0 : Int), (0 : Int), ())))) ((some (Sum.inr (y3.2.1, y3.2.2.1, y3.2.2.2.1, y3.2.2.2.2.1, y3.2.2.2.2.2.1, ())))))))) (fun y5 => (cond (!y5.1) ((some (Sum.inl ((0 : Int), [], (0 : Int), (0 : Int), (0 : Int), ())))) ((iIR (y5.2.1, y5.2.2.1, y5.2.2.2.1, y5.2.2.2.2.1, y5.2.2.2.2.2.1, ())).bind fun y6 => (cond (!y6) ((some (Sum.inl ((0 : Int), [], (0 : Int), (0 : Int), (0 : Int), ())))) ((some (Sum.inr (y5.2.1, y5.2.2.1, y5.2.2.2.1, y5.2.2.2.2.1, y5.2.2.2.2.2.1, ())))))))))))
def iRs.res (_ : R1) (_ : RS1) (y : (R1) ⊕ (R1)) : AV := match y with
 | (.inl y) => (.tup [(.agg [(.v (.int .i64 y.1)), (.v (.slice none 0 0)), (.v (.int .i64 y.2.2.1)), (.v (.int .i64 y.2.2.2.1)), (.v (.int .i64 y.2.2.2.2.1))]), (.v (.bool false))])
 | (.inr y) => (.tup [(.agg [(.v (.int .i64 y.1)), (.own 0), (.v (.int .i64 y.2.2.1)), (.v (.int .i64 y.2.2.2.1)), (.v (.int .i64 y.2.2.2.2.1))]), (.v (.bool true))])
def iRs.out (_ : R1) (_ : RS1) (y : (R1) ⊕ (R1)) : List (Option LB) := match y with
 | (.inl _) => []
 | (.inr y) => [some (.arr 96 tS y.2.1)]
def iRs.S (ar : List AV) (h : List (Option LB)) (r : AV) (h1 : List (Option LB)) : Prop := ∃ a0 a1 y, iRs a0 a1 = some y ∧ leL ar [(.agg [(.v (.int .i64 a0.1)), (.tree tS a0.2.1), (.v (.int .i64 a0.2.2.1)), (.v (.int .i64 a0.2.2.2.1)), (.v (.int .i64 a0.2.2.2.2.1))]), (.agg [(.v (.int .i64 a1.1)), (.v (.int .i64 a1.2.1))])] ∧ leH h [] ∧ r = iRs.res a0 a1 y ∧ h1 = iRs.out a0 a1 y
theorem iRs.call {ar h a0 a1 y} (H : iRs a0 a1 = some y) (h0 : leLk ar [(.agg [(.v (.int .i64 a0.1)), (.tree tS a0.2.1), (.v (.int .i64 a0.2.2.1)), (.v (.int .i64 a0.2.2.2.1)), (.v (.int .i64 a0.2.2.2.2.1))]), (.agg [(.v (.int .i64 a1.1)), (.v (.int .i64 a1.2.1))])] (leHk h [])) : iRs.S ar h (iRs.res a0 a1 y) (iRs.out a0 a1 y) := ⟨a0, a1, y, H, (ao h0).1, (ao h0).2, rfl, rfl⟩
theorem iRs.spec (a0 a1 y) (H : iRs a0 a1 = some y) : Spec Tryz.prog 89 [(.agg [(.v (.int .i64 a0.1)), (.tree tS a0.2.1), (.v (.int .i64 a0.2.2.1)), (.v (.int .i64 a0.2.2.2.1)), (.v (.int .i64 a0.2.2.2.2.1))]), (.agg [(.v (.int .i64 a1.1)), (.v (.int .i64 a1.2.1))])] [] (iRs.res a0 a1 y) (iRs.out a0 a1 y) := by
 have hlen : Nat.ble ([] : List (Option LB)).length (iRs.out a0 a1 y).length = true := by
  rcases y with y | y <;> rfl
 refine si (G88_ok.at tok []) (ct := [(3, some [4, 6, 16])]) Tryz.func89 rfl (by kernel_rfl) (by kernel_rfl) hlen ?_
 repeat' first
  | ((with_reducible refine eqg ?_); exact rfl)
  | ((with_reducible refine KOb.mk ?_); kernel_rfl)
  | ((with_reducible intro h); (repeat first | replace H := grd_k H | replace H := os1 H ‹_›); first | replace H := ct1 h H | replace H := cf1 h H | exact absurd h (by decide) | skip)
  | ((with_reducible refine Ob.mk ?_); first | (with_reducible rfl) | (first | ((repeat (first | (with_reducible exact grd_p H) | replace H := grd_k H | replace H := os1 H ‹_›)); done) | rfl | ((repeat (first | exact grd_p H | (have hp := grd_p H; exact hp) | replace H := grd_k H | replace H := os1 H ‹_› | (replace H := bind_some H; obtain ⟨_, _, H⟩ := H))); done) | (repeat (first | exact grd_p H | replace H := grd_k H | replace H := os1 H ‹_›))))
  | (with_reducible exact True.intro)
  | ((conv => whnf); first
      | (with_reducible refine And.intro ?_ ?_)
      | (with_reducible exact True.intro)
      | (with_reducible refine (?_ : Ob _))
      | ((with_reducible refine CallW.mk ?_); (repeat first | replace H := grd_k H | replace H := os1 H ‹_›); replace H := bind_some H; obtain ⟨y, hy, H⟩ := H; first | ((with_reducible have hz : icRi _ _ _ _ _ = some y := hy); clear hz; refine Exists.intro _ (Exists.intro _ ⟨Or.inl (icRi.call hy ?_), rfl, rfl, ?_⟩)) | ((with_reducible have hz : iRa _ _ = some y := hy); clear hz; rcases y with y | y <;> refine ⟨_, _, iRa.call hy ?_, rfl, rfl, ?_⟩) | ((with_reducible have hz : iIR _ = some y := hy); clear hz; refine ⟨_, _, iIR.call hy ?_, rfl, rfl, ?_⟩))
      | ((with_reducible refine fm ?_); (repeat first | replace H := grd_k H | replace H := os1 H ‹_›); have H := Option.some.inj H; subst H))
  | constructor
def G89 : Env := G88.add 89 [] iRs.S
theorem G89_ok : EnvOk Tryz.prog G89 := G88_ok.add ent_89 fun ar h r h1 ⟨a0, a1, y, hy, e1, e2, e3, e4⟩ => by
 subst e3 e4; exact (iRs.spec a0 a1 y hy).le e1 e2
attribute [local irreducible] iRs

noncomputable def strings_Join (a0 : (List ByteArray)) (a1 : ByteArray) : Option (ByteArray) :=
 (grd ((joinB a0 a1).size ≤ 140737488355328) ((some (joinB a0 a1))))
def strings_Join.res (_ : (List ByteArray)) (_ : ByteArray) (y : ByteArray) : AV := (.v (.string y))
def strings_Join.out (_ : (List ByteArray)) (_ : ByteArray) (_ : ByteArray) : List (Option LB) := []
def strings_Join.S (ar : List AV) (h : List (Option LB)) (r : AV) (h1 : List (Option LB)) : Prop := ∃ a0 a1 y, strings_Join a0 a1 = some y ∧ leL ar [(.tree .str a0), (.v (.string a1))] ∧ leH h [] ∧ r = strings_Join.res a0 a1 y ∧ h1 = strings_Join.out a0 a1 y
theorem strings_Join.call {ar h a0 a1 y} (H : strings_Join a0 a1 = some y) (h0 : leLk ar [(.tree .str a0), (.v (.string a1))] (leHk h [])) : strings_Join.S ar h (strings_Join.res a0 a1 y) (strings_Join.out a0 a1 y) := ⟨a0, a1, y, H, (ao h0).1, (ao h0).2, rfl, rfl⟩
theorem strings_Join.spec (a0 a1 y) (H : strings_Join a0 a1 = some y) : Spec Tryz.prog 62 [(.tree .str a0), (.v (.string a1))] [] (strings_Join.res a0 a1 y) (strings_Join.out a0 a1 y) := by
 have hg := grd_p H
 have H := Option.some.inj (grd_k H)
 subst H
 exact esJ a0 a1 hg
def G90 : Env := G89.add 62 [] strings_Join.S
theorem G90_ok : EnvOk Tryz.prog G90 := G89_ok.add ent_62 fun ar h r h1 ⟨a0, a1, y, hy, e1, e2, e3, e4⟩ => by
 subst e3 e4; exact (strings_Join.spec a0 a1 y hy).le e1 e2
attribute [local irreducible] strings_Join

end Go.Proofs.YtaobinhdnklojaaGreatDoor
namespace Go.Proofs.YtaobinhdnklojaaGreatDoor
open Go.RowKit
set_option maxHeartbeats 100000000
set_option maxRecDepth 100000
attribute [local irreducible] Ob l5 Sub Spec Fin Again CallW CutC KOb iter

attribute [local irreducible] slNf iIR strconv_Itoa sIFi iRcA1 iRsO sIFi1 sCFi sCiS icRi strings_Join

noncomputable def inTl (a0 : (List Int)) (v5 : Int) (v6 : (List ByteArray)) : Option (Lp (Int × (List ByteArray)) (((List ByteArray)))) :=
 (cond (decide (v5 < (a0.length : Int))) (grd (0 ≤ v5 ∧ v5 < (a0.length : Int)) ((strconv_Itoa (a0.getD v5.toNat 0)).bind fun y7 => (grd (v6.length + [y7].length ≤ 140737488355328 / 16 ∧ v6.length + [y7].length ≤ 140737488355328) (some (.go ((w64 (v5 + (1 : Int))), (v6 ++ [y7]))))))) ((some (.out v6))))
noncomputable def inT (a0 : (List Int)) (a1 : ByteArray) : Option (ByteArray) :=
 ((iter (fun s => inTl a0 s.1 s.2) ((0 : Int), ([] : List ByteArray))).bind (fun r8 => ((strings_Join r8 a1).bind fun y9 => (some y9))))
def inT.res (_ : (List Int)) (_ : ByteArray) (y : ByteArray) : AV := (.v (.string y))
def inT.out (_ : (List Int)) (_ : ByteArray) (_ : ByteArray) : List (Option LB) := []
def inT.S (ar : List AV) (h : List (Option LB)) (r : AV) (h1 : List (Option LB)) : Prop := ∃ a0 a1 y, inT a0 a1 = some y ∧ leL ar [(.tree (.int .i64) a0), (.v (.string a1))] ∧ leH h [] ∧ r = inT.res a0 a1 y ∧ h1 = inT.out a0 a1 y
theorem inT.call {ar h a0 a1 y} (H : inT a0 a1 = some y) (h0 : leLk ar [(.tree (.int .i64) a0), (.v (.string a1))] (leHk h [])) : inT.S ar h (inT.res a0 a1 y) (inT.out a0 a1 y) := ⟨a0, a1, y, H, (ao h0).1, (ao h0).2, rfl, rfl⟩
theorem inT.spec (a0 a1 y) (H : inT a0 a1 = some y) : Spec Tryz.prog 163 [(.tree (.int .i64) a0), (.v (.string a1))] [] (inT.res a0 a1 y) (inT.out a0 a1 y) := by
 refine si (G90_ok.at tok []) (ct := []) Tryz.func163 rfl (by kernel_rfl) (by kernel_rfl) rfl ?_
 repeat' first
  | ((with_reducible refine eqg ?_); exact rfl)
  | ((with_reducible refine KOb.mk ?_); kernel_rfl)
  | ((with_reducible intro h); (repeat first | replace H := grd_k H | replace H := os1 H ‹_›); first | replace H := ct1 h H | replace H := cf1 h H | exact absurd h (by decide) | skip)
  | ((with_reducible refine Ob.mk ?_); first | (with_reducible rfl) | (first | ((repeat (first | (with_reducible exact grd_p H) | replace H := grd_k H | replace H := os1 H ‹_›)); done) | rfl | ((repeat (first | exact grd_p H | (have hp := grd_p H; exact hp) | replace H := grd_k H | replace H := os1 H ‹_› | (replace H := bind_some H; obtain ⟨_, _, H⟩ := H))); done) | (repeat (first | exact grd_p H | replace H := grd_k H | replace H := os1 H ‹_›))))
  | (with_reducible exact True.intro)
  | ((conv => whnf); first
      | (with_reducible refine And.intro ?_ ?_)
      | (with_reducible exact True.intro)
      | (with_reducible refine (?_ : Ob _))
      | ((with_reducible refine CallW.mk ?_); (repeat first | replace H := grd_k H | replace H := os1 H ‹_›); replace H := bind_some H; obtain ⟨y, hy, H⟩ := H; first | ((with_reducible have hz : strconv_Itoa _ = some y := hy); clear hz; refine ⟨_, _, strconv_Itoa.call hy ?_, rfl, rfl, ?_⟩) | ((with_reducible have hz : strings_Join _ _ = some y := hy); clear hz; refine ⟨_, _, strings_Join.call hy ?_, rfl, rfl, ?_⟩))
      | ((repeat first | replace H := grd_k H | replace H := os1 H ‹_›); refine li1 (G90_ok.at tok []) (ct := []) (F := (fun s1 : Int × (List ByteArray) => ⟨sl [(1, (.v (.string a1))), (5, (.own 0)), (9, (.tree (.int .i64) a0)), (10, (.v (.int .i64 (a0.length : Int)))), (11, (.v (.int .i64 s1.1)))], [some (.arr 9 .str s1.2)]⟩)) (step := (fun s : Int × (List ByteArray) => inTl _ s.1 s.2)) _ H (by kernel_rfl) (sa ?_) ?_; rotate_left; (intro s1 r v hr H); rotate_right)
      | ((repeat first | replace H := grd_k H | replace H := os1 H ‹_›); refine as1 H (by assumption) (sa ?_))
      | ((with_reducible refine fm ?_); (repeat first | replace H := grd_k H | replace H := os1 H ‹_›); have H := Option.some.inj H; subst H))
  | constructor
def G91 : Env := G90.add 163 [] inT.S
theorem G91_ok : EnvOk Tryz.prog G91 := G90_ok.add ent_163 fun ar h r h1 ⟨a0, a1, y, hy, e1, e2, e3, e4⟩ => by
 subst e3 e4; exact (inT.spec a0 a1 y hy).le e1 e2
attribute [local irreducible] inT

noncomputable def ilT (a0 : (List Int)) : Option (ByteArray) :=
 (cond (decide ((a0.length : Int) = (0 : Int))) ((some (ByteArray.mk #[110, 111, 110, 101]))) ((inT a0 (ByteArray.mk #[32])).bind fun y1 => (some y1)))
def ilT.res (_ : (List Int)) (y : ByteArray) : AV := (.v (.string y))
def ilT.out (_ : (List Int)) (_ : ByteArray) : List (Option LB) := []
def ilT.S (ar : List AV) (h : List (Option LB)) (r : AV) (h1 : List (Option LB)) : Prop := ∃ a0 y, ilT a0 = some y ∧ leL ar [(.tree (.int .i64) a0)] ∧ leH h [] ∧ r = ilT.res a0 y ∧ h1 = ilT.out a0 y
theorem ilT.call {ar h a0 y} (H : ilT a0 = some y) (h0 : leLk ar [(.tree (.int .i64) a0)] (leHk h [])) : ilT.S ar h (ilT.res a0 y) (ilT.out a0 y) := ⟨a0, y, H, (ao h0).1, (ao h0).2, rfl, rfl⟩
theorem ilT.spec (a0 y) (H : ilT a0 = some y) : Spec Tryz.prog 135 [(.tree (.int .i64) a0)] [] (ilT.res a0 y) (ilT.out a0 y) := by
 refine si (G91_ok.at tok []) (ct := []) Tryz.func135 rfl (by kernel_rfl) (by kernel_rfl) rfl ?_
 repeat' first
  | ((with_reducible refine eqg ?_); exact rfl)
  | ((with_reducible refine KOb.mk ?_); kernel_rfl)
  | ((with_reducible intro h); (repeat first | replace H := grd_k H | replace H := os1 H ‹_›); first | replace H := ct1 h H | replace H := cf1 h H | exact absurd h (by decide) | skip)
  | ((with_reducible refine Ob.mk ?_); first | (with_reducible rfl) | (first | ((repeat (first | (with_reducible exact grd_p H) | replace H := grd_k H | replace H := os1 H ‹_›)); done) | rfl | ((repeat (first | exact grd_p H | (have hp := grd_p H; exact hp) | replace H := grd_k H | replace H := os1 H ‹_› | (replace H := bind_some H; obtain ⟨_, _, H⟩ := H))); done) | (repeat (first | exact grd_p H | replace H := grd_k H | replace H := os1 H ‹_›))))
  | (with_reducible exact True.intro)
  | ((conv => whnf); first
      | (with_reducible refine And.intro ?_ ?_)
      | (with_reducible exact True.intro)
      | (with_reducible refine (?_ : Ob _))
      | ((with_reducible refine CallW.mk ?_); (repeat first | replace H := grd_k H | replace H := os1 H ‹_›); replace H := bind_some H; obtain ⟨y, hy, H⟩ := H; first | ((with_reducible have hz : inT _ _ = some y := hy); clear hz; refine ⟨_, _, inT.call hy ?_, rfl, rfl, ?_⟩))
      | ((with_reducible refine fm ?_); (repeat first | replace H := grd_k H | replace H := os1 H ‹_›); have H := Option.some.inj H; subst H))
  | constructor
def G92 : Env := G91.add 135 [] ilT.S
theorem G92_ok : EnvOk Tryz.prog G92 := G91_ok.add ent_135 fun ar h r h1 ⟨a0, y, hy, e1, e2, e3, e4⟩ => by
 subst e3 e4; exact (ilT.spec a0 y hy).le e1 e2
attribute [local irreducible] ilT

noncomputable def icTl (a0 : R1) (v3 : Int) (v4 : (List Int)) : Option (Lp (Int × (List Int)) (((List Int)))) :=
 (cond (decide (v3 < (a0.2.1.length : Int))) (grd (0 ≤ v3 ∧ v3 < (a0.2.1.length : Int)) (grd (v4.length + [(a0.2.1.getD v3.toNat dS).1].length ≤ 140737488355328 / 8 ∧ v4.length + [(a0.2.1.getD v3.toNat dS).1].length ≤ 140737488355328) (some (.go ((w64 (v3 + (1 : Int))), (v4 ++ [(a0.2.1.getD v3.toNat dS).1])))))) ((some (.out v4))))
noncomputable def icT (a0 : R1) : Option (ByteArray) :=
 ((iter (fun s => icTl a0 s.1 s.2) ((0 : Int), ([] : List Int))).bind (fun r5 => ((ilT r5).bind fun y6 => (some y6))))
def icT.res (_ : R1) (y : ByteArray) : AV := (.v (.string y))
def icT.out (_ : R1) (_ : ByteArray) : List (Option LB) := []
def icT.S (ar : List AV) (h : List (Option LB)) (r : AV) (h1 : List (Option LB)) : Prop := ∃ a0 y, icT a0 = some y ∧ leL ar [(.agg [(.v (.int .i64 a0.1)), (.tree tS a0.2.1), (.v (.int .i64 a0.2.2.1)), (.v (.int .i64 a0.2.2.2.1)), (.v (.int .i64 a0.2.2.2.2.1))])] ∧ leH h [] ∧ r = icT.res a0 y ∧ h1 = icT.out a0 y
theorem icT.call {ar h a0 y} (H : icT a0 = some y) (h0 : leLk ar [(.agg [(.v (.int .i64 a0.1)), (.tree tS a0.2.1), (.v (.int .i64 a0.2.2.1)), (.v (.int .i64 a0.2.2.2.1)), (.v (.int .i64 a0.2.2.2.2.1))])] (leHk h [])) : icT.S ar h (icT.res a0 y) (icT.out a0 y) := ⟨a0, y, H, (ao h0).1, (ao h0).2, rfl, rfl⟩
theorem icT.spec (a0 y) (H : icT a0 = some y) : Spec Tryz.prog 131 [(.agg [(.v (.int .i64 a0.1)), (.tree tS a0.2.1), (.v (.int .i64 a0.2.2.1)), (.v (.int .i64 a0.2.2.2.1)), (.v (.int .i64 a0.2.2.2.2.1))])] [] (icT.res a0 y) (icT.out a0 y) := by
 refine si (G92_ok.at tok []) (ct := []) Tryz.func131 rfl (by kernel_rfl) (by kernel_rfl) rfl ?_
 repeat' first
  | ((with_reducible refine eqg ?_); exact rfl)
  | ((with_reducible refine KOb.mk ?_); kernel_rfl)
  | ((with_reducible intro h); (repeat first | replace H := grd_k H | replace H := os1 H ‹_›); first | replace H := ct1 h H | replace H := cf1 h H | exact absurd h (by decide) | skip)
  | ((with_reducible refine Ob.mk ?_); first | (with_reducible rfl) | (first | ((repeat (first | (with_reducible exact grd_p H) | replace H := grd_k H | replace H := os1 H ‹_›)); done) | rfl | ((repeat (first | exact grd_p H | (have hp := grd_p H; exact hp) | replace H := grd_k H | replace H := os1 H ‹_› | (replace H := bind_some H; obtain ⟨_, _, H⟩ := H))); done) | (repeat (first | exact grd_p H | replace H := grd_k H | replace H := os1 H ‹_›))))
  | (with_reducible exact True.intro)
  | ((conv => whnf); first
      | (with_reducible refine And.intro ?_ ?_)
      | (with_reducible exact True.intro)
      | (with_reducible refine (?_ : Ob _))
      | ((with_reducible refine CallW.mk ?_); (repeat first | replace H := grd_k H | replace H := os1 H ‹_›); replace H := bind_some H; obtain ⟨y, hy, H⟩ := H; first | ((with_reducible have hz : ilT _ = some y := hy); clear hz; refine ⟨_, _, ilT.call hy ?_, rfl, rfl, ?_⟩))
      | ((repeat first | replace H := grd_k H | replace H := os1 H ‹_›); refine li1 (G92_ok.at tok []) (ct := []) (F := (fun s1 : Int × (List Int) => ⟨sl [(3, (.own 0)), (8, (.tree tS a0.2.1)), (9, (.v (.int .i64 (a0.2.1.length : Int)))), (10, (.v (.int .i64 s1.1)))], [some (.arr 3 (.int .i64) s1.2)]⟩)) (step := (fun s : Int × (List Int) => icTl _ s.1 s.2)) _ H (by kernel_rfl) (sa ?_) ?_; rotate_left; (intro s1 r v hr H); rotate_right)
      | ((repeat first | replace H := grd_k H | replace H := os1 H ‹_›); refine as1 H (by assumption) (sa ?_))
      | ((with_reducible refine fm ?_); (repeat first | replace H := grd_k H | replace H := os1 H ‹_›); have H := Option.some.inj H; subst H))
  | constructor
def G93 : Env := G92.add 131 [] icT.S
theorem G93_ok : EnvOk Tryz.prog G93 := G92_ok.add ent_131 fun ar h r h1 ⟨a0, y, hy, e1, e2, e3, e4⟩ => by
 subst e3 e4; exact (icT.spec a0 y hy).le e1 e2
attribute [local irreducible] icT

noncomputable def isR (a0 : R1) (a1 : RS1) : Option (ByteArray) :=
 (cond (decide (a1.1 = (1 : Int))) (grd (0 ≤ a1.2.1 ∧ a1.2.1 < (4 : Int)) ((some ([(ByteArray.mk #[115, 116, 111, 112, 112, 101, 100]), (ByteArray.mk #[115, 108, 111, 119]), (ByteArray.mk #[110, 111, 114, 109, 97, 108]), (ByteArray.mk #[108, 111, 99, 107, 101, 100])].getD a1.2.1.toNat (ByteArray.mk #[]))))) (cond (decide (a1.1 = (7 : Int))) ((iRsO (a0.1, a0.2.1, a0.2.2.1, a0.2.2.2.1, a0.2.2.2.2.1, ()) a1.2.1).bind fun y1 => (grd (0 ≤ y1 ∧ y1 < (a0.2.1.length : Int)) (cond ((a0.2.1.getD y1.toNat dS).2.1) ((some (ByteArray.mk #[111, 112, 101, 110]))) ((some (ByteArray.mk #[115, 104, 117, 116])))))) ((cond (decide (a1.1 = (5 : Int))) ((some true)) ((some (decide (a1.1 = (6 : Int)))))).bind fun z2 => (cond z2 ((iRsO (a0.1, a0.2.1, a0.2.2.1, a0.2.2.2.1, a0.2.2.2.2.1, ()) a1.2.1).bind fun y3 => (grd (0 ≤ y3 ∧ y3 < (a0.2.1.length : Int)) ((strconv_Itoa ((a0.2.1.getD y3.toNat dS).2.2.1)).bind fun y4 => (some y4)))) ((icT (a0.1, a0.2.1, a0.2.2.1, a0.2.2.2.1, a0.2.2.2.2.1, ())).bind fun y5 => (some y5))))))
def isR.res (_ : R1) (_ : RS1) (y : ByteArray) : AV := (.v (.string y))
def isR.out (_ : R1) (_ : RS1) (_ : ByteArray) : List (Option LB) := []
def isR.S (ar : List AV) (h : List (Option LB)) (r : AV) (h1 : List (Option LB)) : Prop := ∃ a0 a1 y, isR a0 a1 = some y ∧ leL ar [(.agg [(.v (.int .i64 a0.1)), (.tree tS a0.2.1), (.v (.int .i64 a0.2.2.1)), (.v (.int .i64 a0.2.2.2.1)), (.v (.int .i64 a0.2.2.2.2.1))]), (.agg [(.v (.int .i64 a1.1)), (.v (.int .i64 a1.2.1))])] ∧ leH h [] ∧ r = isR.res a0 a1 y ∧ h1 = isR.out a0 a1 y
theorem isR.call {ar h a0 a1 y} (H : isR a0 a1 = some y) (h0 : leLk ar [(.agg [(.v (.int .i64 a0.1)), (.tree tS a0.2.1), (.v (.int .i64 a0.2.2.1)), (.v (.int .i64 a0.2.2.2.1)), (.v (.int .i64 a0.2.2.2.2.1))]), (.agg [(.v (.int .i64 a1.1)), (.v (.int .i64 a1.2.1))])] (leHk h [])) : isR.S ar h (isR.res a0 a1 y) (isR.out a0 a1 y) := ⟨a0, a1, y, H, (ao h0).1, (ao h0).2, rfl, rfl⟩
theorem isR.spec (a0 a1 y) (H : isR a0 a1 = some y) : Spec Tryz.prog 90 [(.agg [(.v (.int .i64 a0.1)), (.tree tS a0.2.1), (.v (.int .i64 a0.2.2.1)), (.v (.int .i64 a0.2.2.2.1)), (.v (.int .i64 a0.2.2.2.2.1))]), (.agg [(.v (.int .i64 a1.1)), (.v (.int .i64 a1.2.1))])] [] (isR.res a0 a1 y) (isR.out a0 a1 y) := by
 refine si (G93_ok.at tok []) (ct := [(10, none), (6, some [23])]) Tryz.func90 rfl (by kernel_rfl) (by kernel_rfl) rfl ?_
 repeat' first
  | ((with_reducible refine eqg ?_); exact rfl)
  | ((with_reducible refine KOb.mk ?_); kernel_rfl)
  | ((with_reducible intro h); (repeat first | replace H := grd_k H | replace H := os1 H ‹_›); first | replace H := ct1 h H | replace H := cf1 h H | exact absurd h (by decide) | skip)
  | ((with_reducible refine Ob.mk ?_); first | (with_reducible rfl) | (first | ((repeat (first | (with_reducible exact grd_p H) | replace H := grd_k H | replace H := os1 H ‹_›)); done) | rfl | ((repeat (first | exact grd_p H | (have hp := grd_p H; exact hp) | replace H := grd_k H | replace H := os1 H ‹_› | (replace H := bind_some H; obtain ⟨_, _, H⟩ := H))); done) | (repeat (first | exact grd_p H | replace H := grd_k H | replace H := os1 H ‹_›))))
  | (with_reducible exact True.intro)
  | ((conv => whnf); first
      | (with_reducible refine And.intro ?_ ?_)
      | (with_reducible exact True.intro)
      | (with_reducible refine (?_ : Ob _))
      | ((with_reducible refine CallW.mk ?_); (repeat first | replace H := grd_k H | replace H := os1 H ‹_›); replace H := bind_some H; obtain ⟨y, hy, H⟩ := H; first | ((with_reducible have hz : iRsO _ _ = some y := hy); clear hz; refine ⟨_, _, iRsO.call hy ?_, rfl, rfl, ?_⟩) | ((with_reducible have hz : strconv_Itoa _ = some y := hy); clear hz; refine ⟨_, _, strconv_Itoa.call hy ?_, rfl, rfl, ?_⟩) | ((with_reducible have hz : icT _ = some y := hy); clear hz; refine ⟨_, _, icT.call hy ?_, rfl, rfl, ?_⟩))
      | ((with_reducible refine cutAt (id := 10) ?_); (repeat first | replace H := grd_k H | replace H := os1 H ‹_›); first | (replace H := bind_some H; obtain ⟨z, hz, H⟩ := H; refine CutC.mk (id := 10) ⟨sl [(2, (.loc 0 0 0)), (3, (.loc 1 0 0)), (24, (.bl z))], [some (.box 38 [(.v (.int .i64 a0.1)), (.tree tS a0.2.1), (.v (.int .i64 a0.2.2.1)), (.v (.int .i64 a0.2.2.2.1)), (.v (.int .i64 a0.2.2.2.2.1))]), some (.box 120 [(.v (.int .i64 a1.1)), (.v (.int .i64 a1.2.1))])]⟩ ?_ ?_; (replace H := hz)))
      | ((repeat first | replace H := grd_k H | replace H := os1 H ‹_›); have H := Option.some.inj H; subst H; with_reducible refine sa ?_)
      | ((with_reducible refine fm ?_); (repeat first | replace H := grd_k H | replace H := os1 H ‹_›); have H := Option.some.inj H; subst H))
  | constructor
def G94 : Env := G93.add 90 [] isR.S
theorem G94_ok : EnvOk Tryz.prog G94 := G93_ok.add ent_90 fun ar h r h1 ⟨a0, a1, y, hy, e1, e2, e3, e4⟩ => by
 subst e3 e4; exact (isR.spec a0 a1 y hy).le e1 e2
attribute [local irreducible] isR

noncomputable def iCA (a0 : R1) (a1 : Int) : Option (Int × Bool) :=
 ((iIR (a0.1, a0.2.1, a0.2.2.1, a0.2.2.2.1, a0.2.2.2.2.1, ())).bind fun y1 => (cond (!y1) ((some ((0 : Int), false))) ((iRcA1 (a0.1, a0.2.1, a0.2.2.1, a0.2.2.2.1, a0.2.2.2.2.1, ()) a1).bind fun y2 => (some ((if false = true then (if (0 : Int) < y2 then (0 : Int) else y2) else (if (0 : Int) > y2 then (0 : Int) else y2)), (decide ((0 : Int) ≤ y2)))))))
def iCA.res (_ : R1) (_ : Int) (y : Int × Bool) : AV := (.tup [(.v (.int .i64 y.1)), (.bl y.2)])
def iCA.out (_ : R1) (_ : Int) (_ : Int × Bool) : List (Option LB) := []
def iCA.S (ar : List AV) (h : List (Option LB)) (r : AV) (h1 : List (Option LB)) : Prop := ∃ a0 a1 y, iCA a0 a1 = some y ∧ leL ar [(.agg [(.v (.int .i64 a0.1)), (.tree tS a0.2.1), (.v (.int .i64 a0.2.2.1)), (.v (.int .i64 a0.2.2.2.1)), (.v (.int .i64 a0.2.2.2.2.1))]), (.v (.int .i64 a1))] ∧ leH h [] ∧ r = iCA.res a0 a1 y ∧ h1 = iCA.out a0 a1 y
theorem iCA.call {ar h a0 a1 y} (H : iCA a0 a1 = some y) (h0 : leLk ar [(.agg [(.v (.int .i64 a0.1)), (.tree tS a0.2.1), (.v (.int .i64 a0.2.2.1)), (.v (.int .i64 a0.2.2.2.1)), (.v (.int .i64 a0.2.2.2.2.1))]), (.v (.int .i64 a1))] (leHk h [])) : iCA.S ar h (iCA.res a0 a1 y) (iCA.out a0 a1 y) := ⟨a0, a1, y, H, (ao h0).1, (ao h0).2, rfl, rfl⟩
theorem iCA.spec (a0 a1 y) (H : iCA a0 a1 = some y) : Spec Tryz.prog 132 [(.agg [(.v (.int .i64 a0.1)), (.tree tS a0.2.1), (.v (.int .i64 a0.2.2.1)), (.v (.int .i64 a0.2.2.2.1)), (.v (.int .i64 a0.2.2.2.2.1))]), (.v (.int .i64 a1))] [] (iCA.res a0 a1 y) (iCA.out a0 a1 y) := by
 refine si (G94_ok.at tok []) (ct := []) Tryz.func132 rfl (by kernel_rfl) (by kernel_rfl) rfl ?_
 repeat' first
  | ((with_reducible refine eqg ?_); exact rfl)
  | ((with_reducible refine KOb.mk ?_); kernel_rfl)
  | ((with_reducible intro h); (repeat first | replace H := grd_k H | replace H := os1 H ‹_›); first | replace H := ct1 h H | replace H := cf1 h H | exact absurd h (by decide) | skip)
  | ((with_reducible refine Ob.mk ?_); first | (with_reducible rfl) | (first | ((repeat (first | (with_reducible exact grd_p H) | replace H := grd_k H | replace H := os1 H ‹_›)); done) | rfl | ((repeat (first | exact grd_p H | (have hp := grd_p H; exact hp) | replace H := grd_k H | replace H := os1 H ‹_› | (replace H := bind_some H; obtain ⟨_, _, H⟩ := H))); done) | (repeat (first | exact grd_p H | replace H := grd_k H | replace H := os1 H ‹_›))))
  | (with_reducible exact True.intro)
  | ((conv => whnf); first
      | (with_reducible refine And.intro ?_ ?_)
      | (with_reducible exact True.intro)
      | (with_reducible refine (?_ : Ob _))
      | ((with_reducible refine CallW.mk ?_); (repeat first | replace H := grd_k H | replace H := os1 H ‹_›); replace H := bind_some H; obtain ⟨y, hy, H⟩ := H; first | ((with_reducible have hz : iIR _ = some y := hy); clear hz; refine ⟨_, _, iIR.call hy ?_, rfl, rfl, ?_⟩) | ((with_reducible have hz : iRcA1 _ _ = some y := hy); clear hz; refine ⟨_, _, iRcA1.call hy ?_, rfl, rfl, ?_⟩))
      | ((with_reducible refine fm ?_); (repeat first | replace H := grd_k H | replace H := os1 H ‹_›); have H := Option.some.inj H; subst H))
  | constructor
def G95 : Env := G94.add 132 [] iCA.S
theorem G95_ok : EnvOk Tryz.prog G95 := G94_ok.add ent_132 fun ar h r h1 ⟨a0, a1, y, hy, e1, e2, e3, e4⟩ => by
 subst e3 e4; exact (iCA.spec a0 a1 y hy).le e1 e2
attribute [local irreducible] iCA

noncomputable def iTT (a0 : R1) (a1 : Int) (a2 : Bool) : Option (Int × Bool) :=
 ((iCA (a0.1, a0.2.1, a0.2.2.1, a0.2.2.2.1, a0.2.2.2.2.1, ()) a1).bind fun y1 => (cond (!y1.2) ((some ((0 : Int), false))) (cond a2 (grd ((2 : Int) ≠ 0) (grd ((a0.2.1.length : Int) ≠ 0) ((some ((Int.tmod (w64 ((w64 ((w64 (Int.tdiv (a0.2.1.length : Int) (2 : Int))) - y1.1)) + (a0.2.1.length : Int))) (a0.2.1.length : Int)), true))))) (grd ((a0.2.1.length : Int) ≠ 0) ((some ((Int.tmod (w64 ((w64 ((0 : Int) - y1.1)) + (a0.2.1.length : Int))) (a0.2.1.length : Int)), true)))))))
def iTT.res (_ : R1) (_ : Int) (_ : Bool) (y : Int × Bool) : AV := (.tup [(.v (.int .i64 y.1)), (.bl y.2)])
def iTT.out (_ : R1) (_ : Int) (_ : Bool) (_ : Int × Bool) : List (Option LB) := []
def iTT.S (ar : List AV) (h : List (Option LB)) (r : AV) (h1 : List (Option LB)) : Prop := ∃ a0 a1 a2 y, iTT a0 a1 a2 = some y ∧ leL ar [(.agg [(.v (.int .i64 a0.1)), (.tree tS a0.2.1), (.v (.int .i64 a0.2.2.1)), (.v (.int .i64 a0.2.2.2.1)), (.v (.int .i64 a0.2.2.2.2.1))]), (.v (.int .i64 a1)), (.bl a2)] ∧ leH h [] ∧ r = iTT.res a0 a1 a2 y ∧ h1 = iTT.out a0 a1 a2 y
theorem iTT.call {ar h a0 a1 a2 y} (H : iTT a0 a1 a2 = some y) (h0 : leLk ar [(.agg [(.v (.int .i64 a0.1)), (.tree tS a0.2.1), (.v (.int .i64 a0.2.2.1)), (.v (.int .i64 a0.2.2.2.1)), (.v (.int .i64 a0.2.2.2.2.1))]), (.v (.int .i64 a1)), (.bl a2)] (leHk h [])) : iTT.S ar h (iTT.res a0 a1 a2 y) (iTT.out a0 a1 a2 y) := ⟨a0, a1, a2, y, H, (ao h0).1, (ao h0).2, rfl, rfl⟩
theorem iTT.spec (a0 a1 a2 y) (H : iTT a0 a1 a2 = some y) : Spec Tryz.prog 133 [(.agg [(.v (.int .i64 a0.1)), (.tree tS a0.2.1), (.v (.int .i64 a0.2.2.1)), (.v (.int .i64 a0.2.2.2.1)), (.v (.int .i64 a0.2.2.2.2.1))]), (.v (.int .i64 a1)), (.bl a2)] [] (iTT.res a0 a1 a2 y) (iTT.out a0 a1 a2 y) := by
 refine si (G95_ok.at tok []) (ct := [(4, some [2, 3, 8])]) Tryz.func133 rfl (by kernel_rfl) (by kernel_rfl) rfl ?_
 repeat' first
  | ((with_reducible refine eqg ?_); exact rfl)
  | ((with_reducible refine KOb.mk ?_); kernel_rfl)
  | ((with_reducible intro h); (repeat first | replace H := grd_k H | replace H := os1 H ‹_›); first | replace H := ct1 h H | replace H := cf1 h H | exact absurd h (by decide) | skip)
  | ((with_reducible refine Ob.mk ?_); first | (with_reducible rfl) | (first | ((repeat (first | (with_reducible exact grd_p H) | replace H := grd_k H | replace H := os1 H ‹_›)); done) | rfl | ((repeat (first | exact grd_p H | (have hp := grd_p H; exact hp) | replace H := grd_k H | replace H := os1 H ‹_› | (replace H := bind_some H; obtain ⟨_, _, H⟩ := H))); done) | (repeat (first | exact grd_p H | replace H := grd_k H | replace H := os1 H ‹_›))))
  | (with_reducible exact True.intro)
  | ((conv => whnf); first
      | (with_reducible refine And.intro ?_ ?_)
      | (with_reducible exact True.intro)
      | (with_reducible refine (?_ : Ob _))
      | ((with_reducible refine CallW.mk ?_); (repeat first | replace H := grd_k H | replace H := os1 H ‹_›); replace H := bind_some H; obtain ⟨y, hy, H⟩ := H; first | ((with_reducible have hz : iCA _ _ = some y := hy); clear hz; refine ⟨_, _, iCA.call hy ?_, rfl, rfl, ?_⟩))
      | ((with_reducible refine fm ?_); (repeat first | replace H := grd_k H | replace H := os1 H ‹_›); have H := Option.some.inj H; subst H))
  | constructor
def G96 : Env := G95.add 133 [] iTT.S
theorem G96_ok : EnvOk Tryz.prog G96 := G95_ok.add ent_133 fun ar h r h1 ⟨a0, a1, a2, y, hy, e1, e2, e3, e4⟩ => by
 subst e3 e4; exact (iTT.spec a0 a1 a2 y hy).le e1 e2
attribute [local irreducible] iTT

end Go.Proofs.YtaobinhdnklojaaGreatDoor
namespace Go.Proofs.YtaobinhdnklojaaGreatDoor
open Go.RowKit
set_option maxHeartbeats 100000000
set_option maxRecDepth 100000
attribute [local irreducible] Ob l5 Sub Spec Fin Again CallW CutC KOb iter

attribute [local irreducible] slNf iRiS iIR strconv_Itoa iAC strings_Split iPI isO sIFi sIFi1 sCFi sCiS icRi iRs ilT isR iCA iTT

noncomputable def iRpO1 (a0 : R1) (v6 : Int) (v7 : Int) (v8 : Int) : Option (Lp (Int × Int × Int) ((Int × Int))) :=
 (cond (decide (v8 < (a0.2.1.length : Int))) (grd (0 ≤ v8 ∧ v8 < (a0.2.1.length : Int)) ((iRiS (a0.1, a0.2.1, a0.2.2.1, a0.2.2.2.1, a0.2.2.2.2.1, ()) v8).bind fun y9 => (cond (!y9) (some (.go ((w64 (v6 + ((a0.2.1.getD v8.toNat dS).2.2.1))), (w64 (v7 + ((a0.2.1.getD v8.toNat dS).2.2.1))), (w64 (v8 + (1 : Int)))))) (some (.go ((w64 (v6 + ((a0.2.1.getD v8.toNat dS).2.2.1))), v7, (w64 (v8 + (1 : Int))))))))) ((some (.out (v6, v7)))))
noncomputable def iRpO (a0 : R1) : Option (Int × Int) :=
 ((iter (fun s => iRpO1 a0 s.1 s.2.1 s.2.2) ((0 : Int), (0 : Int), (0 : Int))).bind (fun r10 => (some (r10.1, r10.2))))
def iRpO.res (_ : R1) (y : Int × Int) : AV := (.tup [(.v (.int .i64 y.1)), (.v (.int .i64 y.2))])
def iRpO.out (_ : R1) (_ : Int × Int) : List (Option LB) := []
def iRpO.S (ar : List AV) (h : List (Option LB)) (r : AV) (h1 : List (Option LB)) : Prop := ∃ a0 y, iRpO a0 = some y ∧ leL ar [(.agg [(.v (.int .i64 a0.1)), (.tree tS a0.2.1), (.v (.int .i64 a0.2.2.1)), (.v (.int .i64 a0.2.2.2.1)), (.v (.int .i64 a0.2.2.2.2.1))])] ∧ leH h [] ∧ r = iRpO.res a0 y ∧ h1 = iRpO.out a0 y
theorem iRpO.call {ar h a0 y} (H : iRpO a0 = some y) (h0 : leLk ar [(.agg [(.v (.int .i64 a0.1)), (.tree tS a0.2.1), (.v (.int .i64 a0.2.2.1)), (.v (.int .i64 a0.2.2.2.1)), (.v (.int .i64 a0.2.2.2.2.1))])] (leHk h [])) : iRpO.S ar h (iRpO.res a0 y) (iRpO.out a0 y) := ⟨a0, y, H, (ao h0).1, (ao h0).2, rfl, rfl⟩
theorem iRpO.spec (a0 y) (H : iRpO a0 = some y) : Spec Tryz.prog 134 [(.agg [(.v (.int .i64 a0.1)), (.tree tS a0.2.1), (.v (.int .i64 a0.2.2.1)), (.v (.int .i64 a0.2.2.2.1)), (.v (.int .i64 a0.2.2.2.2.1))])] [] (iRpO.res a0 y) (iRpO.out a0 y) := by
 refine si (G96_ok.at tok []) (ct := [(7, some [1, 4, 5, 7, 9, 10, 11, 23])]) Tryz.func134 rfl (by kernel_rfl) (by kernel_rfl) rfl ?_
 repeat' first
  | ((with_reducible refine eqg ?_); exact rfl)
  | ((with_reducible refine KOb.mk ?_); kernel_rfl)
  | ((with_reducible intro h); (repeat first | replace H := grd_k H | replace H := os1 H ‹_›); first | replace H := ct1 h H | replace H := cf1 h H | exact absurd h (by decide) | skip)
  | ((with_reducible refine Ob.mk ?_); first | (with_reducible rfl) | (first | ((repeat (first | (with_reducible exact grd_p H) | replace H := grd_k H | replace H := os1 H ‹_›)); done) | rfl | ((repeat (first | exact grd_p H | (have hp := grd_p H; exact hp) | replace H := grd_k H | replace H := os1 H ‹_› | (replace H := bind_some H; obtain ⟨_, _, H⟩ := H))); done) | (repeat (first | exact grd_p H | replace H := grd_k H | replace H := os1 H ‹_›))))
  | (with_reducible exact True.intro)
  | ((conv => whnf); first
      | (with_reducible refine And.intro ?_ ?_)
      | (with_reducible exact True.intro)
      | (with_reducible refine (?_ : Ob _))
      | ((with_reducible refine CallW.mk ?_); (repeat first | replace H := grd_k H | replace H := os1 H ‹_›); replace H := bind_some H; obtain ⟨y, hy, H⟩ := H; first | ((with_reducible have hz : iRiS _ _ = some y := hy); clear hz; refine ⟨_, _, iRiS.call hy ?_, rfl, rfl, ?_⟩))
      | ((repeat first | replace H := grd_k H | replace H := os1 H ‹_›); refine li1 (G96_ok.at tok []) (ct := [(7, some [1, 4, 5, 7, 9, 10, 11, 23])]) (F := (fun s1 : Int × Int × Int => ⟨sl [(1, (.loc 0 0 0)), (4, (.v (.int .i64 s1.1))), (5, (.v (.int .i64 s1.2.1))), (9, (.tree tS a0.2.1)), (10, (.v (.int .i64 (a0.2.1.length : Int)))), (11, (.v (.int .i64 s1.2.2)))], [some (.box 38 [(.v (.int .i64 a0.1)), (.tree tS a0.2.1), (.v (.int .i64 a0.2.2.1)), (.v (.int .i64 a0.2.2.2.1)), (.v (.int .i64 a0.2.2.2.2.1))])]⟩)) (step := (fun s : Int × Int × Int => iRpO1 _ s.1 s.2.1 s.2.2)) _ H (by kernel_rfl) (sa ?_) ?_; rotate_left; (intro s1 r v hr H); rotate_right)
      | ((repeat first | replace H := grd_k H | replace H := os1 H ‹_›); refine as1 H (by assumption) (sa ?_))
      | ((with_reducible refine fm ?_); (repeat first | replace H := grd_k H | replace H := os1 H ‹_›); have H := Option.some.inj H; subst H))
  | constructor
def G97 : Env := G96.add 134 [] iRpO.S
theorem G97_ok : EnvOk Tryz.prog G97 := G96_ok.add ent_134 fun ar h r h1 ⟨a0, y, hy, e1, e2, e3, e4⟩ => by
 subst e3 e4; exact (iRpO.spec a0 y hy).le e1 e2
attribute [local irreducible] iRpO

noncomputable def iODl (a0 : R1) (v4 : Int) (v5 : (List Int)) : Option (Lp (Int × (List Int)) (((List Int)))) :=
 (cond (decide (v4 < (a0.2.1.length : Int))) (grd (0 ≤ v4 ∧ v4 < (a0.2.1.length : Int)) (cond ((a0.2.1.getD v4.toNat dS).2.1) (grd (v5.length + [v4].length ≤ 140737488355328 / 8 ∧ v5.length + [v4].length ≤ 140737488355328) (some (.go ((w64 (v4 + (1 : Int))), (v5 ++ [v4]))))) (some (.go ((w64 (v4 + (1 : Int))), v5))))) ((some (.out v5))))
noncomputable def iOD (a0 : R1) : Option ((Unit) ⊕ ((List Int))) :=
 ((iIR (a0.1, a0.2.1, a0.2.2.1, a0.2.2.2.1, a0.2.2.2.2.1, ())).bind fun y1 => (cond (!y1) ((some (Sum.inl ()))) ((iter (fun s => iODl a0 s.1 s.2) ((0 : Int), ([] : List Int))).bind (fun r6 => (some (Sum.inr r6))))))
def iOD.res (_ : R1) (y : (Unit) ⊕ ((List Int))) : AV := match y with
 | (.inl _) => (.tup [(.v (.slice none 0 0)), (.v (.bool false))])
 | (.inr _) => (.tup [(.own 0), (.v (.bool true))])
def iOD.out (_ : R1) (y : (Unit) ⊕ ((List Int))) : List (Option LB) := match y with
 | (.inl _) => []
 | (.inr y) => [some (.arr 3 (.int .i64) y)]
def iOD.S (ar : List AV) (h : List (Option LB)) (r : AV) (h1 : List (Option LB)) : Prop := ∃ a0 y, iOD a0 = some y ∧ leL ar [(.agg [(.v (.int .i64 a0.1)), (.tree tS a0.2.1), (.v (.int .i64 a0.2.2.1)), (.v (.int .i64 a0.2.2.2.1)), (.v (.int .i64 a0.2.2.2.2.1))])] ∧ leH h [] ∧ r = iOD.res a0 y ∧ h1 = iOD.out a0 y
theorem iOD.call {ar h a0 y} (H : iOD a0 = some y) (h0 : leLk ar [(.agg [(.v (.int .i64 a0.1)), (.tree tS a0.2.1), (.v (.int .i64 a0.2.2.1)), (.v (.int .i64 a0.2.2.2.1)), (.v (.int .i64 a0.2.2.2.2.1))])] (leHk h [])) : iOD.S ar h (iOD.res a0 y) (iOD.out a0 y) := ⟨a0, y, H, (ao h0).1, (ao h0).2, rfl, rfl⟩
theorem iOD.spec (a0 y) (H : iOD a0 = some y) : Spec Tryz.prog 136 [(.agg [(.v (.int .i64 a0.1)), (.tree tS a0.2.1), (.v (.int .i64 a0.2.2.1)), (.v (.int .i64 a0.2.2.2.1)), (.v (.int .i64 a0.2.2.2.2.1))])] [] (iOD.res a0 y) (iOD.out a0 y) := by
 have hlen : Nat.ble ([] : List (Option LB)).length (iOD.out a0 y).length = true := by
  rcases y with y | y <;> rfl
 refine si (G97_ok.at tok []) (ct := [(5, some [4, 12, 13, 14])]) Tryz.func136 rfl (by kernel_rfl) (by kernel_rfl) hlen ?_
 repeat' first
  | ((with_reducible refine eqg ?_); exact rfl)
  | ((with_reducible refine KOb.mk ?_); kernel_rfl)
  | ((with_reducible intro h); (repeat first | replace H := grd_k H | replace H := os1 H ‹_›); first | replace H := ct1 h H | replace H := cf1 h H | exact absurd h (by decide) | skip)
  | ((with_reducible refine Ob.mk ?_); first | (with_reducible rfl) | (first | ((repeat (first | (with_reducible exact grd_p H) | replace H := grd_k H | replace H := os1 H ‹_›)); done) | rfl | ((repeat (first | exact grd_p H | (have hp := grd_p H; exact hp) | replace H := grd_k H | replace H := os1 H ‹_› | (replace H := bind_some H; obtain ⟨_, _, H⟩ := H))); done) | (repeat (first | exact grd_p H | replace H := grd_k H | replace H := os1 H ‹_›))))
  | (with_reducible exact True.intro)
  | ((conv => whnf); first
      | (with_reducible refine And.intro ?_ ?_)
      | (with_reducible exact True.intro)
      | (with_reducible refine (?_ : Ob _))
      | ((with_reducible refine CallW.mk ?_); (repeat first | replace H := grd_k H | replace H := os1 H ‹_›); replace H := bind_some H; obtain ⟨y, hy, H⟩ := H; first | ((with_reducible have hz : iIR _ = some y := hy); clear hz; refine ⟨_, _, iIR.call hy ?_, rfl, rfl, ?_⟩))
      | ((repeat first | replace H := grd_k H | replace H := os1 H ‹_›); refine li1 (G97_ok.at tok []) (ct := [(5, some [4, 12, 13, 14])]) (F := (fun s1 : Int × (List Int) => ⟨sl [(4, (.own 0)), (12, (.tree tS a0.2.1)), (13, (.v (.int .i64 (a0.2.1.length : Int)))), (14, (.v (.int .i64 s1.1)))], [some (.arr 3 (.int .i64) s1.2)]⟩)) (step := (fun s : Int × (List Int) => iODl _ s.1 s.2)) _ H (by kernel_rfl) (sa ?_) ?_; rotate_left; (intro s1 r v hr H); rotate_right)
      | ((repeat first | replace H := grd_k H | replace H := os1 H ‹_›); refine as1 H (by assumption) (sa ?_))
      | ((with_reducible refine fm ?_); (repeat first | replace H := grd_k H | replace H := os1 H ‹_›); have H := Option.some.inj H; subst H))
  | constructor
def G98 : Env := G97.add 136 [] iOD.S
theorem G98_ok : EnvOk Tryz.prog G98 := G97_ok.add ent_136 fun ar h r h1 ⟨a0, y, hy, e1, e2, e3, e4⟩ => by
 subst e3 e4; exact (iOD.spec a0 y hy).le e1 e2
attribute [local irreducible] iOD

noncomputable def iIC (a0 : R1) : Option (Bool × Bool) :=
 ((iIR (a0.1, a0.2.1, a0.2.2.1, a0.2.2.2.1, a0.2.2.2.2.1, ())).bind fun y1 => (cond (!y1) ((some (false, false))) ((iRpO (a0.1, a0.2.1, a0.2.2.1, a0.2.2.2.1, a0.2.2.2.2.1, ())).bind fun y2 => (cond (decide (y2.1 = (0 : Int))) ((some ((decide (a0.2.2.2.1 = (0 : Int))), true))) ((some (false, true)))))))
def iIC.res (_ : R1) (y : Bool × Bool) : AV := (.tup [(.bl y.1), (.bl y.2)])
def iIC.out (_ : R1) (_ : Bool × Bool) : List (Option LB) := []
def iIC.S (ar : List AV) (h : List (Option LB)) (r : AV) (h1 : List (Option LB)) : Prop := ∃ a0 y, iIC a0 = some y ∧ leL ar [(.agg [(.v (.int .i64 a0.1)), (.tree tS a0.2.1), (.v (.int .i64 a0.2.2.1)), (.v (.int .i64 a0.2.2.2.1)), (.v (.int .i64 a0.2.2.2.2.1))])] ∧ leH h [] ∧ r = iIC.res a0 y ∧ h1 = iIC.out a0 y
theorem iIC.call {ar h a0 y} (H : iIC a0 = some y) (h0 : leLk ar [(.agg [(.v (.int .i64 a0.1)), (.tree tS a0.2.1), (.v (.int .i64 a0.2.2.1)), (.v (.int .i64 a0.2.2.2.1)), (.v (.int .i64 a0.2.2.2.2.1))])] (leHk h [])) : iIC.S ar h (iIC.res a0 y) (iIC.out a0 y) := ⟨a0, y, H, (ao h0).1, (ao h0).2, rfl, rfl⟩
theorem iIC.spec (a0 y) (H : iIC a0 = some y) : Spec Tryz.prog 137 [(.agg [(.v (.int .i64 a0.1)), (.tree tS a0.2.1), (.v (.int .i64 a0.2.2.1)), (.v (.int .i64 a0.2.2.2.1)), (.v (.int .i64 a0.2.2.2.2.1))])] [] (iIC.res a0 y) (iIC.out a0 y) := by
 refine si (G98_ok.at tok []) (ct := [(4, some [1, 4, 17, 18, 19])]) Tryz.func137 rfl (by kernel_rfl) (by kernel_rfl) rfl ?_
 repeat' first
  | ((with_reducible refine eqg ?_); exact rfl)
  | ((with_reducible refine KOb.mk ?_); kernel_rfl)
  | ((with_reducible intro h); (repeat first | replace H := grd_k H | replace H := os1 H ‹_›); first | replace H := ct1 h H | replace H := cf1 h H | exact absurd h (by decide) | skip)
  | ((with_reducible refine Ob.mk ?_); first | (with_reducible rfl) | (first | ((repeat (first | (with_reducible exact grd_p H) | replace H := grd_k H | replace H := os1 H ‹_›)); done) | rfl | ((repeat (first | exact grd_p H | (have hp := grd_p H; exact hp) | replace H := grd_k H | replace H := os1 H ‹_› | (replace H := bind_some H; obtain ⟨_, _, H⟩ := H))); done) | (repeat (first | exact grd_p H | replace H := grd_k H | replace H := os1 H ‹_›))))
  | (with_reducible exact True.intro)
  | ((conv => whnf); first
      | (with_reducible refine And.intro ?_ ?_)
      | (with_reducible exact True.intro)
      | (with_reducible refine (?_ : Ob _))
      | ((with_reducible refine CallW.mk ?_); (repeat first | replace H := grd_k H | replace H := os1 H ‹_›); replace H := bind_some H; obtain ⟨y, hy, H⟩ := H; first | ((with_reducible have hz : iIR _ = some y := hy); clear hz; refine ⟨_, _, iIR.call hy ?_, rfl, rfl, ?_⟩) | ((with_reducible have hz : iRpO _ = some y := hy); clear hz; refine ⟨_, _, iRpO.call hy ?_, rfl, rfl, ?_⟩))
      | ((with_reducible refine fm ?_); (repeat first | replace H := grd_k H | replace H := os1 H ‹_›); have H := Option.some.inj H; subst H))
  | constructor
def G99 : Env := G98.add 137 [] iIC.S
theorem G99_ok : EnvOk Tryz.prog G99 := G98_ok.add ent_137 fun ar h r h1 ⟨a0, y, hy, e1, e2, e3, e4⟩ => by
 subst e3 e4; exact (iIC.spec a0 y hy).le e1 e2
attribute [local irreducible] iIC

noncomputable def ia (a0 : R1) (a1 : ByteArray) (a2 : (List Int)) : Option (ByteArray × Bool) :=
 (cond (decide ((a2.length : Int) = (1 : Int))) (cond (decide (a1 = (ByteArray.mk #[99, 97, 98, 105, 110]))) (grd (0 ≤ (0 : Int) ∧ (0 : Int) < (a2.length : Int)) ((iCA (a0.1, a0.2.1, a0.2.2.1, a0.2.2.2.1, a0.2.2.2.2.1, ()) (a2.getD ((0 : Int).toNat) 0)).bind fun y1 => ((strconv_Itoa y1.1).bind fun y2 => (some (y2, y1.2))))) (cond (decide (a1 = (ByteArray.mk #[117, 112]))) (grd (0 ≤ (0 : Int) ∧ (0 : Int) < (a2.length : Int)) ((iTT (a0.1, a0.2.1, a0.2.2.1, a0.2.2.2.1, a0.2.2.2.2.1, ()) (a2.getD ((0 : Int).toNat) 0) true).bind fun y3 => ((strconv_Itoa y3.1).bind fun y4 => (some (y4, y3.2))))) (cond (decide (a1 = (ByteArray.mk #[100, 111, 119, 110]))) (grd (0 ≤ (0 : Int) ∧ (0 : Int) < (a2.length : Int)) ((iTT (a0.1, a0.2.1, a0.2.2.1, a0.2.2.2.1, a0.2.2.2.2.1, ()) (a2.getD ((0 : Int).toNat) 0) false).bind fun y5 => ((strconv_Itoa y5.1).bind fun y6 => (some (y6, y5.2))))) ((strconv_Itoa (0 : Int)).bind fun y7 => (some (y7, false)))))) (cond (decide ((0 : Int) < (a2.length : Int))) ((some ((ByteArray.mk #[]), false))) (cond (decide (a1 = (ByteArray.mk #[112, 101, 111, 112, 108, 101]))) ((iRpO (a0.1, a0.2.1, a0.2.2.1, a0.2.2.2.1, a0.2.2.2.2.1, ())).bind fun y8 => ((ilT [a0.2.2.1, y8.1, a0.2.2.2.1, a0.2.2.2.2.1]).bind fun y9 => (some (y9, true)))) (cond (decide (a1 = (ByteArray.mk #[100, 111, 111, 114, 115]))) ((iOD (a0.1, a0.2.1, a0.2.2.1, a0.2.2.2.1, a0.2.2.2.2.1, ())).bind (Sum.elim (fun _ => ((ilT []).bind fun y12 => (some (y12, false)))) (fun y13 => ((ilT y13).bind fun y14 => (some (y14, true)))))) (cond (decide (a1 = (ByteArray.mk #[99, 108, 101, 97, 114]))) ((iIC (a0.1, a0.2.1, a0.2.2.1, a0.2.2.2.1, a0.2.2.2.2.1, ())).bind fun y15 => (cond y15.1 ((some ((ByteArray.mk #[121, 101, 115]), true))) ((some ((ByteArray.mk #[110, 111]), true))))) ((some ((ByteArray.mk #[]), false))))))))
def ia.res (_ : R1) (_ : ByteArray) (_ : (List Int)) (y : ByteArray × Bool) : AV := (.tup [(.v (.string y.1)), (.bl y.2)])
def ia.out (_ : R1) (_ : ByteArray) (_ : (List Int)) (_ : ByteArray × Bool) : List (Option LB) := []
def ia.S (ar : List AV) (h : List (Option LB)) (r : AV) (h1 : List (Option LB)) : Prop := ∃ a0 a1 a2 y, ia a0 a1 a2 = some y ∧ leL ar [(.agg [(.v (.int .i64 a0.1)), (.tree tS a0.2.1), (.v (.int .i64 a0.2.2.1)), (.v (.int .i64 a0.2.2.2.1)), (.v (.int .i64 a0.2.2.2.2.1))]), (.v (.string a1)), (.tree (.int .i64) a2)] ∧ leH h [] ∧ r = ia.res a0 a1 a2 y ∧ h1 = ia.out a0 a1 a2 y
theorem ia.call {ar h a0 a1 a2 y} (H : ia a0 a1 a2 = some y) (h0 : leLk ar [(.agg [(.v (.int .i64 a0.1)), (.tree tS a0.2.1), (.v (.int .i64 a0.2.2.1)), (.v (.int .i64 a0.2.2.2.1)), (.v (.int .i64 a0.2.2.2.2.1))]), (.v (.string a1)), (.tree (.int .i64) a2)] (leHk h [])) : ia.S ar h (ia.res a0 a1 a2 y) (ia.out a0 a1 a2 y) := ⟨a0, a1, a2, y, H, (ao h0).1, (ao h0).2, rfl, rfl⟩
theorem ia.spec (a0 a1 a2 y) (H : ia a0 a1 a2 = some y) : Spec Tryz.prog 91 [(.agg [(.v (.int .i64 a0.1)), (.tree tS a0.2.1), (.v (.int .i64 a0.2.2.1)), (.v (.int .i64 a0.2.2.2.1)), (.v (.int .i64 a0.2.2.2.2.1))]), (.v (.string a1)), (.tree (.int .i64) a2)] [] (ia.res a0 a1 a2 y) (ia.out a0 a1 a2 y) := by
 refine si (G99_ok.at tok []) (ct := [(9, some [2, 3, 8, 9, 40]), (10, some [8, 9]), (15, some [3, 56, 57]), (24, some []), (25, some [])]) Tryz.func91 rfl (by kernel_rfl) (by kernel_rfl) rfl ?_
 repeat' first
  | ((with_reducible refine eqg ?_); exact rfl)
  | ((with_reducible refine KOb.mk ?_); kernel_rfl)
  | ((with_reducible intro h); (repeat first | replace H := grd_k H | replace H := os1 H ‹_›); first | replace H := ct1 h H | replace H := cf1 h H | exact absurd h (by decide) | skip)
  | ((with_reducible refine Ob.mk ?_); first | (with_reducible rfl) | (first | ((repeat (first | (with_reducible exact grd_p H) | replace H := grd_k H | replace H := os1 H ‹_›)); done) | rfl | ((repeat (first | exact grd_p H | (have hp := grd_p H; exact hp) | replace H := grd_k H | replace H := os1 H ‹_› | (replace H := bind_some H; obtain ⟨_, _, H⟩ := H))); done) | (repeat (first | exact grd_p H | replace H := grd_k H | replace H := os1 H ‹_›))))
  | (with_reducible exact True.intro)
  | ((conv => whnf); first
      | (with_reducible refine And.intro ?_ ?_)
      | (with_reducible exact True.intro)
      | (with_reducible refine (?_ : Ob _))
      | ((with_reducible refine CallW.mk ?_); (repeat first | replace H := grd_k H | replace H := os1 H ‹_›); replace H := bind_some H; obtain ⟨y, hy, H⟩ := H; first | ((with_reducible have hz : iCA _ _ = some y := hy); clear hz; refine ⟨_, _, iCA.call hy ?_, rfl, rfl, ?_⟩) | ((with_reducible have hz : strconv_Itoa _ = some y := hy); clear hz; refine ⟨_, _, strconv_Itoa.call hy ?_, rfl, rfl, ?_⟩) | ((with_reducible have hz : iTT _ _ _ = some y := hy); clear hz; refine ⟨_, _, iTT.call hy ?_, rfl, rfl, ?_⟩) | ((with_reducible have hz : iRpO _ = some y := hy); clear hz; refine ⟨_, _, iRpO.call hy ?_, rfl, rfl, ?_⟩) | ((with_reducible have hz : ilT _ = some y := hy); clear hz; refine ⟨_, _, ilT.call hy ?_, rfl, rfl, ?_⟩) | ((with_reducible have hz : iOD _ = some y := hy); clear hz; rcases y with y | y <;> refine ⟨_, _, iOD.call hy ?_, rfl, rfl, ?_⟩) | ((with_reducible have hz : iIC _ = some y := hy); clear hz; refine ⟨_, _, iIC.call hy ?_, rfl, rfl, ?_⟩))
      | ((with_reducible refine fm ?_); (repeat first | replace H := grd_k H | replace H := os1 H ‹_›); have H := Option.some.inj H; subst H))
  | constructor
def G100 : Env := G99.add 91 [] ia.S
theorem G100_ok : EnvOk Tryz.prog G100 := G99_ok.add ent_91 fun ar h r h1 ⟨a0, a1, a2, y, hy, e1, e2, e3, e4⟩ => by
 subst e3 e4; exact (ia.spec a0 a1 a2 y hy).le e1 e2
attribute [local irreducible] ia

noncomputable def irl  (v12 : Nat) (v13 : Int) (v14 : Int) (v15 : (List ByteArray)) (v16 : (List Int)) : Option (Lp (Nat × Int × Int × (List ByteArray) × (List Int)) ((Unit) ⊕ ((List ByteArray) × (List Int)))) :=
 (cond (decide (v14 < v13)) (grd (0 ≤ v14 ∧ v14 < (v12 : Int)) ((iPI (v15.getD (((1 : Int).toNat) + v14.toNat) (ByteArray.mk #[]))).bind fun y17 => (cond (!y17.2) ((some (.out (Sum.inl ())))) (grd (v16.length + [y17.1].length ≤ 140737488355328 / 8 ∧ v16.length + [y17.1].length ≤ 140737488355328) (some (.go (v12, v13, (w64 (v14 + (1 : Int))), v15, (v16 ++ [y17.1])))))))) ((some (.out (Sum.inr (v15, v16))))))
noncomputable def ir (a0 : R1) (a1 : ByteArray) : Option ((R1 × ByteArray × (List Slot)) ⊕ (R1 × ByteArray × (List Slot))) :=
 ((strings_Split a1 (ByteArray.mk #[32])).bind fun y1 => (grd (0 ≤ (1 : Int) ∧ (1 : Int) ≤ (y1.length : Int) ∧ (y1.length : Int) ≤ (y1.length : Int)) ((iter (fun s => irl s.1 s.2.1 s.2.2.1 s.2.2.2.1 s.2.2.2.2) ((((y1.length : Int) - (1 : Int)).toNat), ((((y1.length : Int) - (1 : Int)).toNat : Nat) : Int), (0 : Int), y1, ([] : List Int))).bind (Sum.elim (fun _ => (some (Sum.inl ((a0.1, a0.2.1, a0.2.2.1, a0.2.2.2.1, a0.2.2.2.2.1, ()), (ByteArray.mk #[63]), a0.2.1)))) (fun r20 => (grd (0 ≤ (0 : Int) ∧ (0 : Int) < (r20.1.length : Int)) ((isO (r20.1.getD ((0 : Int).toNat) (ByteArray.mk #[])) r20.2).bind fun y21 => (cond y21.2 ((iRs (a0.1, a0.2.1, a0.2.2.1, a0.2.2.2.1, a0.2.2.2.2.1, ()) (y21.1.1, y21.1.2.1, ())).bind (Sum.elim (fun _ => (some (Sum.inl ((a0.1, a0.2.1, a0.2.2.1, a0.2.2.2.1, a0.2.2.2.2.1, ()), (ByteArray.mk #[63]), a0.2.1)))) (fun y24 => ((isR (y24.1, y24.2.1, y24.2.2.1, y24.2.2.2.1, y24.2.2.2.2.1, ()) (y21.1.1, y21.1.2.1, ())).bind fun y25 => (some (Sum.inr ((y24.1, y24.2.1, y24.2.2.1, y24.2.2.2.1, y24.2.2.2.2.1, ()), y25, a0.2.1))))))) (grd (0 ≤ (0 : Int) ∧ (0 : Int) < (r20.1.length : Int)) ((ia (a0.1, a0.2.1, a0.2.2.1, a0.2.2.2.1, a0.2.2.2.2.1, ()) (r20.1.getD ((0 : Int).toNat) (ByteArray.mk #[])) r20.2).bind fun y26 => (cond y26.2 ((some (Sum.inl ((a0.1, a0.2.1, a0.2.2.1, a0.2.2.2.1, a0.2.2.2.2.1, ()), y26.1, a0.2.1)))) ((some (Sum.inl ((a0.1, a0.2.1, a0.2.2.1, a0.2.2.2.1, a0.2.2.2.2.1, ()), (ByteArray.mk #[63]), a0.2.1)))))))))))))))
def ir.res (_ : R1) (_ : ByteArray) (y : (R1 × ByteArray × (List Slot)) ⊕ (R1 × ByteArray × (List Slot))) : AV := match y with
 | (.inl y) => (.tup [(.agg [(.v (.int .i64 y.1.1)), (.own 0), (.v (.int .i64 y.1.2.2.1)), (.v (.int .i64 y.1.2.2.2.1)), (.v (.int .i64 y.1.2.2.2.2.1))]), (.v (.string y.2.1))])
 | (.inr y) => (.tup [(.agg [(.v (.int .i64 y.1.1)), (.own 1), (.v (.int .i64 y.1.2.2.1)), (.v (.int .i64 y.1.2.2.2.1)), (.v (.int .i64 y.1.2.2.2.2.1))]), (.v (.string y.2.1))])
def ir.out (_ : R1) (_ : ByteArray) (y : (R1 × ByteArray × (List Slot)) ⊕ (R1 × ByteArray × (List Slot))) : List (Option LB) := match y with
 | (.inl y) => [some (.arr 96 tS y.2.2)]
 | (.inr y) => [some (.arr 96 tS y.2.2), some (.arr 96 tS y.1.2.1)]
def ir.S (ar : List AV) (h : List (Option LB)) (r : AV) (h1 : List (Option LB)) : Prop := ∃ a0 a1 y, ir a0 a1 = some y ∧ leL ar [(.agg [(.v (.int .i64 a0.1)), (.own 0), (.v (.int .i64 a0.2.2.1)), (.v (.int .i64 a0.2.2.2.1)), (.v (.int .i64 a0.2.2.2.2.1))]), (.v (.string a1))] ∧ leH h [some (.arr 96 tS a0.2.1)] ∧ r = ir.res a0 a1 y ∧ h1 = ir.out a0 a1 y
theorem ir.call {ar h a0 a1 y} (H : ir a0 a1 = some y) (h0 : leLk ar [(.agg [(.v (.int .i64 a0.1)), (.own 0), (.v (.int .i64 a0.2.2.1)), (.v (.int .i64 a0.2.2.2.1)), (.v (.int .i64 a0.2.2.2.2.1))]), (.v (.string a1))] (leHk h [some (.arr 96 tS a0.2.1)])) : ir.S ar h (ir.res a0 a1 y) (ir.out a0 a1 y) := ⟨a0, a1, y, H, (ao h0).1, (ao h0).2, rfl, rfl⟩
theorem ir.spec (a0 a1 y) (H : ir a0 a1 = some y) : Spec Tryz.prog 48 [(.agg [(.v (.int .i64 a0.1)), (.own 0), (.v (.int .i64 a0.2.2.1)), (.v (.int .i64 a0.2.2.2.1)), (.v (.int .i64 a0.2.2.2.2.1))]), (.v (.string a1))] [some (.arr 96 tS a0.2.1)] (ir.res a0 a1 y) (ir.out a0 a1 y) := by
 have hlen : Nat.ble ([some (.arr 96 tS a0.2.1)] : List (Option LB)).length (ir.out a0 a1 y).length = true := by
  rcases y with y | y <;> rfl
 refine si (G100_ok.at tok []) (ct := [(8, some [2, 4, 6, 7, 10, 22, 23, 24]), (10, some [2, 4, 6, 7]), (13, some [2, 4, 12, 14, 15]), (17, some [2, 4, 16, 17])]) Tryz.func48 rfl (by kernel_rfl) (by kernel_rfl) hlen ?_
 repeat' first
  | ((with_reducible refine eqg ?_); exact rfl)
  | ((with_reducible refine KOb.mk ?_); kernel_rfl)
  | ((with_reducible intro h); (repeat first | replace H := grd_k H | replace H := os1 H ‹_›); first | replace H := ct1 h H | replace H := cf1 h H | exact absurd h (by decide) | skip)
  | ((with_reducible refine Ob.mk ?_); first | (with_reducible rfl) | (first | ((repeat (first | (with_reducible exact grd_p H) | replace H := grd_k H | replace H := os1 H ‹_›)); done) | rfl | ((repeat (first | exact grd_p H | (have hp := grd_p H; exact hp) | replace H := grd_k H | replace H := os1 H ‹_› | (replace H := bind_some H; obtain ⟨_, _, H⟩ := H))); done) | (repeat (first | exact grd_p H | replace H := grd_k H | replace H := os1 H ‹_›))))
  | (with_reducible exact True.intro)
  | ((conv => whnf); first
      | (with_reducible refine And.intro ?_ ?_)
      | (with_reducible exact True.intro)
      | (with_reducible refine (?_ : Ob _))
      | ((with_reducible refine CallW.mk ?_); (repeat first | replace H := grd_k H | replace H := os1 H ‹_›); replace H := bind_some H; obtain ⟨y, hy, H⟩ := H; first | ((with_reducible have hz : strings_Split _ _ = some y := hy); clear hz; refine ⟨_, _, strings_Split.call hy ?_, rfl, rfl, ?_⟩) | ((with_reducible have hz : iPI _ = some y := hy); clear hz; refine ⟨_, _, iPI.call hy ?_, rfl, rfl, ?_⟩) | ((with_reducible have hz : isO _ _ = some y := hy); clear hz; refine ⟨_, _, isO.call hy ?_, rfl, rfl, ?_⟩) | ((with_reducible have hz : iRs _ _ = some y := hy); clear hz; rcases y with y | y <;> refine ⟨_, _, iRs.call hy ?_, rfl, rfl, ?_⟩) | ((with_reducible have hz : isR _ _ = some y := hy); clear hz; refine ⟨_, _, isR.call hy ?_, rfl, rfl, ?_⟩) | ((with_reducible have hz : ia _ _ _ = some y := hy); clear hz; refine ⟨_, _, ia.call hy ?_, rfl, rfl, ?_⟩))
      | ((repeat first | replace H := grd_k H | replace H := os1 H ‹_›); refine li1 (G100_ok.at tok []) (ct := [(8, some [2, 4, 6, 7, 10, 22, 23, 24]), (10, some [2, 4, 6, 7]), (13, some [2, 4, 12, 14, 15]), (17, some [2, 4, 16, 17])]) (F := (fun s1 : Nat × Int × Int × (List ByteArray) × (List Int) => ⟨sl [(2, (.loc 1 0 0)), (4, (.loc 2 0 0)), (6, (.own 3)), (7, (.own 4)), (22, (.view 3 ((1 : Int).toNat) s1.1)), (23, (.v (.int .i64 s1.2.1))), (24, (.v (.int .i64 s1.2.2.1)))], [some (.arr 96 tS a0.2.1), some (.box 38 [(.v (.int .i64 a0.1)), (.own 0), (.v (.int .i64 a0.2.2.1)), (.v (.int .i64 a0.2.2.2.1)), (.v (.int .i64 a0.2.2.2.2.1))]), some (.box 38 [(.v (.int .i64 (0 : Int))), (.v (.slice none 0 0)), (.v (.int .i64 (0 : Int))), (.v (.int .i64 (0 : Int))), (.v (.int .i64 (0 : Int)))]), some (.arr 9 .str s1.2.2.2.1), some (.arr 3 (.int .i64) s1.2.2.2.2)]⟩)) (step := (fun s : Nat × Int × Int × (List ByteArray) × (List Int) => irl s.1 s.2.1 s.2.2.1 s.2.2.2.1 s.2.2.2.2)) _ H (by kernel_rfl) (sa ?_) ?_; rotate_left; (intro s1 r v hr H); rotate_right)
      | ((repeat first | replace H := grd_k H | replace H := os1 H ‹_›); refine as1 H (by assumption) (sa ?_))
      | ((with_reducible refine fm ?_); (repeat first | replace H := grd_k H | replace H := os1 H ‹_›); have H := Option.some.inj H; subst H))
  | constructor
def G101 : Env := G100.add 48 [true] ir.S
theorem G101_ok : EnvOk Tryz.prog G101 := G100_ok.add ent_48 fun ar h r h1 ⟨a0, a1, y, hy, e1, e2, e3, e4⟩ => by
 subst e3 e4; exact (ir.spec a0 a1 y hy).le e1 e2
attribute [local irreducible] ir

noncomputable def ieR (a0 : Int) (a1 : LR) : Option (ByteArray) :=
 ((strconv_Itoa a0).bind fun y1 => (grd (y1.size + (ByteArray.mk #[32]).size ≤ 9223372036854775807) (grd ((y1 ++ (ByteArray.mk #[32])).size + a1.1.size ≤ 9223372036854775807) (grd (((y1 ++ (ByteArray.mk #[32])) ++ a1.1).size + (ByteArray.mk #[64]).size ≤ 9223372036854775807) (grd ((((y1 ++ (ByteArray.mk #[32])) ++ a1.1) ++ (ByteArray.mk #[64])).size + a1.2.1.size ≤ 9223372036854775807) ((iAC ((((y1 ++ (ByteArray.mk #[32])) ++ a1.1) ++ (ByteArray.mk #[64])) ++ a1.2.1)).bind fun y2 => (grd (y2.1.size + (ByteArray.mk #[10]).size ≤ 9223372036854775807) ((some (y2.1 ++ (ByteArray.mk #[10])))))))))))
def ieR.res (_ : Int) (_ : LR) (y : ByteArray) : AV := (.v (.string y))
def ieR.out (_ : Int) (_ : LR) (_ : ByteArray) : List (Option LB) := []
def ieR.S (ar : List AV) (h : List (Option LB)) (r : AV) (h1 : List (Option LB)) : Prop := ∃ a0 a1 y, ieR a0 a1 = some y ∧ leL ar [(.v (.int .i64 a0)), (.agg [(.v (.string a1.1)), (.v (.string a1.2.1))])] ∧ leH h [] ∧ r = ieR.res a0 a1 y ∧ h1 = ieR.out a0 a1 y
theorem ieR.call {ar h a0 a1 y} (H : ieR a0 a1 = some y) (h0 : leLk ar [(.v (.int .i64 a0)), (.agg [(.v (.string a1.1)), (.v (.string a1.2.1))])] (leHk h [])) : ieR.S ar h (ieR.res a0 a1 y) (ieR.out a0 a1 y) := ⟨a0, a1, y, H, (ao h0).1, (ao h0).2, rfl, rfl⟩
theorem ieR.spec (a0 a1 y) (H : ieR a0 a1 = some y) : Spec Tryz.prog 92 [(.v (.int .i64 a0)), (.agg [(.v (.string a1.1)), (.v (.string a1.2.1))])] [] (ieR.res a0 a1 y) (ieR.out a0 a1 y) := by
 refine si (G101_ok.at tok []) (ct := [(2, some [5])]) Tryz.func92 rfl (by kernel_rfl) (by kernel_rfl) rfl ?_
 repeat' first
  | ((with_reducible refine eqg ?_); exact rfl)
  | ((with_reducible refine KOb.mk ?_); kernel_rfl)
  | ((with_reducible intro h); (repeat first | replace H := grd_k H | replace H := os1 H ‹_›); first | replace H := ct1 h H | replace H := cf1 h H | exact absurd h (by decide) | skip)
  | ((with_reducible refine Ob.mk ?_); first | (with_reducible rfl) | (first | ((repeat (first | (with_reducible exact grd_p H) | replace H := grd_k H | replace H := os1 H ‹_›)); done) | rfl | ((repeat (first | exact grd_p H | (have hp := grd_p H; exact hp) | replace H := grd_k H | replace H := os1 H ‹_› | (replace H := bind_some H; obtain ⟨_, _, H⟩ := H))); done) | (repeat (first | exact grd_p H | replace H := grd_k H | replace H := os1 H ‹_›))))
  | (with_reducible exact True.intro)
  | ((conv => whnf); first
      | (with_reducible refine And.intro ?_ ?_)
      | (with_reducible exact True.intro)
      | (with_reducible refine (?_ : Ob _))
      | ((with_reducible refine CallW.mk ?_); (repeat first | replace H := grd_k H | replace H := os1 H ‹_›); replace H := bind_some H; obtain ⟨y, hy, H⟩ := H; first | ((with_reducible have hz : strconv_Itoa _ = some y := hy); clear hz; refine ⟨_, _, strconv_Itoa.call hy ?_, rfl, rfl, ?_⟩) | ((with_reducible have hz : iAC _ = some y := hy); clear hz; refine ⟨_, _, iAC.call hy ?_, rfl, rfl, ?_⟩))
      | ((with_reducible refine fm ?_); (repeat first | replace H := grd_k H | replace H := os1 H ‹_›); have H := Option.some.inj H; subst H))
  | constructor
def G102 : Env := G101.add 92 [] ieR.S
theorem G102_ok : EnvOk Tryz.prog G102 := G101_ok.add ent_92 fun ar h r h1 ⟨a0, a1, y, hy, e1, e2, e3, e4⟩ => by
 subst e3 e4; exact (ieR.spec a0 a1 y hy).le e1 e2
attribute [local irreducible] ieR

end Go.Proofs.YtaobinhdnklojaaGreatDoor
namespace Go.Proofs.YtaobinhdnklojaaGreatDoor
open Go.RowKit
attribute [local irreducible] Ob l5 Sub Spec Fin Again CallW CutC KOb iter

attribute [local irreducible] slNf icR iIVR iIVL iIVC sIFi sIFi1 sCFi sCiS icRi ir ieR

noncomputable def iAR (a0 : Log) (a1 : LR) : Option (Log × Int) :=
 ((iIVL (a0.1, a0.2.1, a0.2.2.1, ())).bind fun y1 => (cond (!y1) ((some ((a0.1, a0.2.1, a0.2.2.1, ()), (1 : Int)))) ((iIVR (a1.1, a1.2.1, ())).bind fun y2 => (cond (!y2) ((some ((a0.1, a0.2.1, a0.2.2.1, ()), (1 : Int)))) (cond (decide (a0.2.2.1 = (60 : Int))) ((some ((a0.1, a0.2.1, a0.2.2.1, ()), (2 : Int)))) ((ieR a0.2.2.1 (a1.1, a1.2.1, ())).bind fun y3 => (grd (a0.2.1.size + y3.size ≤ 9223372036854775807) ((some ((a0.1, (a0.2.1 ++ y3), (w64 (a0.2.2.1 + (1 : Int))), ()), (0 : Int)))))))))))
def iAR.res (_ : Log) (_ : LR) (y : Log × Int) : AV := (.tup [(.agg [(.v (.string y.1.1)), (.v (.string y.1.2.1)), (.v (.int .i64 y.1.2.2.1))]), (.v (.int .i64 y.2))])
def iAR.out (_ : Log) (_ : LR) (_ : Log × Int) : List (Option LB) := []
def iAR.S (ar : List AV) (h : List (Option LB)) (r : AV) (h1 : List (Option LB)) : Prop := ∃ a0 a1 y, iAR a0 a1 = some y ∧ leL ar [(.agg [(.v (.string a0.1)), (.v (.string a0.2.1)), (.v (.int .i64 a0.2.2.1))]), (.agg [(.v (.string a1.1)), (.v (.string a1.2.1))])] ∧ leH h [] ∧ r = iAR.res a0 a1 y ∧ h1 = iAR.out a0 a1 y
theorem iAR.call {ar h a0 a1 y} (H : iAR a0 a1 = some y) (h0 : leLk ar [(.agg [(.v (.string a0.1)), (.v (.string a0.2.1)), (.v (.int .i64 a0.2.2.1))]), (.agg [(.v (.string a1.1)), (.v (.string a1.2.1))])] (leHk h [])) : iAR.S ar h (iAR.res a0 a1 y) (iAR.out a0 a1 y) := ⟨a0, a1, y, H, (ao h0).1, (ao h0).2, rfl, rfl⟩
set_option maxHeartbeats 100000000 in
set_option maxRecDepth 100000 in
theorem iAR.spec (a0 a1 y) (H : iAR a0 a1 = some y) : Spec Tryz.prog 49 [(.agg [(.v (.string a0.1)), (.v (.string a0.2.1)), (.v (.int .i64 a0.2.2.1))]), (.agg [(.v (.string a1.1)), (.v (.string a1.2.1))])] [] (iAR.res a0 a1 y) (iAR.out a0 a1 y) := by
 refine si (G102_ok.at tok []) (ct := [(4, some [2, 3, 4, 16]), (5, some [2, 3, 4])]) Tryz.func49 rfl (by kernel_rfl) (by kernel_rfl) rfl ?_
 repeat' first
  | ((with_reducible refine eqg ?_); exact rfl)
  | ((with_reducible refine KOb.mk ?_); kernel_rfl)
  | ((with_reducible intro h); (repeat first | replace H := grd_k H | replace H := os1 H ‹_›); first | replace H := ct1 h H | replace H := cf1 h H | exact absurd h (by decide) | skip)
  | ((with_reducible refine Ob.mk ?_); first | (with_reducible rfl) | (first | ((repeat (first | (with_reducible exact grd_p H) | replace H := grd_k H | replace H := os1 H ‹_›)); done) | rfl | ((repeat (first | exact grd_p H | (have hp := grd_p H; exact hp) | replace H := grd_k H | replace H := os1 H ‹_› | (replace H := bind_some H; obtain ⟨_, _, H⟩ := H))); done) | (repeat (first | exact grd_p H | replace H := grd_k H | replace H := os1 H ‹_›))))
  | (with_reducible exact True.intro)
  | ((conv => whnf); first
      | (with_reducible refine And.intro ?_ ?_)
      | (with_reducible exact True.intro)
      | (with_reducible refine (?_ : Ob _))
      | ((with_reducible refine CallW.mk ?_); (repeat first | replace H := grd_k H | replace H := os1 H ‹_›); replace H := bind_some H; obtain ⟨y, hy, H⟩ := H; first | ((with_reducible have hz : iIVL _ = some y := hy); clear hz; refine ⟨_, _, iIVL.call hy ?_, rfl, rfl, ?_⟩) | ((with_reducible have hz : iIVR _ = some y := hy); clear hz; refine ⟨_, _, iIVR.call hy ?_, rfl, rfl, ?_⟩) | ((with_reducible have hz : ieR _ _ = some y := hy); clear hz; refine ⟨_, _, ieR.call hy ?_, rfl, rfl, ?_⟩))
      | ((with_reducible refine fm ?_); (repeat first | replace H := grd_k H | replace H := os1 H ‹_›); have H := Option.some.inj H; subst H))
  | constructor
def G103 : Env := G102.add 49 [] iAR.S
theorem G103_ok : EnvOk Tryz.prog G103 := G102_ok.add ent_49 fun ar h r h1 ⟨a0, a1, y, hy, e1, e2, e3, e4⟩ => by
 subst e3 e4; exact (iAR.spec a0 a1 y hy).le e1 e2
attribute [local irreducible] iAR

noncomputable def iEC (a0 : C1) (a1 : ByteArray) : Option (C1 × ByteArray × (List Slot)) :=
 (((icR (a0.1.1, a0.1.2.1, a0.1.2.2.1, a0.1.2.2.2.1, a0.1.2.2.2.2.1, ())).bind fun y1 => (some ((Tg.mk : Tg 1), y1.2, y1.1.1, y1.1.2.2.1, y1.1.2.2.2.1, y1.1.2.2.2.2.1, y1.1.2.1))).bind fun z2 => ((iIVC ((a0.1.1, z2.2.1, a0.1.2.2.1, a0.1.2.2.2.1, a0.1.2.2.2.2.1, ()), (a0.2.1.1, a0.2.1.2.1, a0.2.1.2.2.1, ()), ())).bind fun y3 => (cond (!y3) ((some (((z2.2.2.1, z2.2.2.2.2.2.2, z2.2.2.2.1, z2.2.2.2.2.1, z2.2.2.2.2.2.1, ()), (a0.2.1.1, a0.2.1.2.1, a0.2.1.2.2.1, ()), ()), (ByteArray.mk #[110, 111]), z2.2.1))) ((iIVR (a1, (ByteArray.mk #[]), ())).bind fun y4 => (cond (!y4) ((some (((z2.2.2.1, z2.2.2.2.2.2.2, z2.2.2.2.1, z2.2.2.2.2.1, z2.2.2.2.2.2.1, ()), (a0.2.1.1, a0.2.1.2.1, a0.2.1.2.2.1, ()), ()), (ByteArray.mk #[98, 97, 100]), z2.2.1))) (cond (decide (a0.2.1.2.2.1 = (60 : Int))) ((some (((z2.2.2.1, z2.2.2.2.2.2.2, z2.2.2.2.1, z2.2.2.2.2.1, z2.2.2.2.2.2.1, ()), (a0.2.1.1, a0.2.1.2.1, a0.2.1.2.2.1, ()), ()), (ByteArray.mk #[102, 117, 108, 108]), z2.2.1))) (((ir (z2.2.2.1, z2.2.2.2.2.2.2, z2.2.2.2.1, z2.2.2.2.2.1, z2.2.2.2.2.2.1, ()) a1).bind (Sum.elim (fun y6 => (some ((Tg.mk : Tg 2), y6.2.1, z2.2.1, y6.1.1, y6.1.2.2.1, y6.1.2.2.2.1, y6.1.2.2.2.2.1, y6.2.2))) (fun y7 => (some ((Tg.mk : Tg 2), y7.2.1, z2.2.1, y7.1.1, y7.1.2.2.1, y7.1.2.2.2.1, y7.1.2.2.2.2.1, y7.1.2.1))))).bind fun z8 => ((cond (decide ((200 : Int) < (z8.2.1.size : Int))) ((some ((ByteArray.mk #[108, 111, 110, 103]), z8.2.2.1, z8.2.2.2.1, z8.2.2.2.2.1, z8.2.2.2.2.2.1, z8.2.2.2.2.2.2.1, z8.2.2.2.2.2.2.2))) ((some (z8.2.1, z8.2.2.1, z8.2.2.2.1, z8.2.2.2.2.1, z8.2.2.2.2.2.1, z8.2.2.2.2.2.2.1, z8.2.2.2.2.2.2.2)))).bind fun z9 => ((iAR (a0.2.1.1, a0.2.1.2.1, a0.2.1.2.2.1, ()) (a1, z9.1, ())).bind fun y10 => (some (((z9.2.2.1, z9.2.2.2.2.2.2, z9.2.2.2.1, z9.2.2.2.2.1, z9.2.2.2.2.2.1, ()), (y10.1.1, y10.1.2.1, y10.1.2.2.1, ()), ()), z9.1, z9.2.1)))))))))))
attribute [local irreducible] iEC

end Go.Proofs.YtaobinhdnklojaaGreatDoor
namespace Go.Proofs.YtaobinhdnklojaaGreatDoor
open Go.RowKit
attribute [local irreducible] Ob l5 Sub Spec Fin Again CallW CutC KOb iter

attribute [local irreducible] slNf sIFi sIFi1 sCFi sCiS icRi

end Go.Proofs.YtaobinhdnklojaaGreatDoor
namespace Go.Proofs.YtaobinhdnklojaaGreatDoor
open Go.RowKit
attribute [local irreducible] Ob l5 Sub Spec Fin Again CallW CutC KOb iter

attribute [local irreducible] slI slG slNf sIFi sIFi1 sCFi sCiS icRi

noncomputable def sNR (a0 : Int) (a1 : Int) : Option ((R1) ⊕ (R1)) :=
 ((slI a0 (4 : Int) (10 : Int)).bind fun y1 => (cond (!y1) ((some (Sum.inl ((0 : Int), [], (0 : Int), (0 : Int), (0 : Int), ())))) (grd (0 ≤ a0 ∧ a0 ≤ a0 ∧ (24 : Int) * a0 ≤ 140737488355328 ∧ a0 ≤ 140737488355328) ((slG ((0 : Int), (List.replicate a0.toNat ((0 : Int), false, (0 : Int), ())), a1, (0 : Int), (0 : Int), ())).bind fun y2 => (cond (!y2) ((some (Sum.inl ((0 : Int), [], (0 : Int), (0 : Int), (0 : Int), ())))) ((some (Sum.inr ((0 : Int), (List.replicate a0.toNat ((0 : Int), false, (0 : Int), ())), a1, (0 : Int), (0 : Int), ())))))))))
def sNR.res (_ : Int) (_ : Int) (y : (R1) ⊕ (R1)) : AV := match y with
 | (.inl y) => (.tup [(.agg [(.v (.int .i64 y.1)), (.v (.slice none 0 0)), (.v (.int .i64 y.2.2.1)), (.v (.int .i64 y.2.2.2.1)), (.v (.int .i64 y.2.2.2.2.1))]), (.v (.bool false))])
 | (.inr y) => (.tup [(.agg [(.v (.int .i64 y.1)), (.own 0), (.v (.int .i64 y.2.2.1)), (.v (.int .i64 y.2.2.2.1)), (.v (.int .i64 y.2.2.2.2.1))]), (.v (.bool true))])
def sNR.out (_ : Int) (_ : Int) (y : (R1) ⊕ (R1)) : List (Option LB) := match y with
 | (.inl _) => []
 | (.inr y) => [some (.arr 96 tS y.2.1)]
def sNR.S (ar : List AV) (h : List (Option LB)) (r : AV) (h1 : List (Option LB)) : Prop := ∃ a0 a1 y, sNR a0 a1 = some y ∧ leL ar [(.v (.int .i64 a0)), (.v (.int .i64 a1))] ∧ leH h [] ∧ r = sNR.res a0 a1 y ∧ h1 = sNR.out a0 a1 y
theorem sNR.call {ar h a0 a1 y} (H : sNR a0 a1 = some y) (h0 : leLk ar [(.v (.int .i64 a0)), (.v (.int .i64 a1))] (leHk h [])) : sNR.S ar h (sNR.res a0 a1 y) (sNR.out a0 a1 y) := ⟨a0, a1, y, H, (ao h0).1, (ao h0).2, rfl, rfl⟩
set_option maxHeartbeats 100000000 in
set_option maxRecDepth 100000 in
theorem sNR.spec (a0 a1 y) (H : sNR a0 a1 = some y) : Spec Tryz.prog 67 [(.v (.int .i64 a0)), (.v (.int .i64 a1))] [] (sNR.res a0 a1 y) (sNR.out a0 a1 y) := by
 have hlen : Nat.ble ([] : List (Option LB)).length (sNR.out a0 a1 y).length = true := by
  rcases y with y | y <;> rfl
 refine si (G103_ok.at tok []) (ct := [(5, some [4, 6, 17])]) Tryz.func67 rfl (by kernel_rfl) (by kernel_rfl) hlen ?_
 repeat' first
  | ((with_reducible refine eqg ?_); exact rfl)
  | ((with_reducible refine KOb.mk ?_); kernel_rfl)
  | ((with_reducible intro h); (repeat first | replace H := grd_k H | replace H := os1 H ‹_›); first | replace H := ct1 h H | replace H := cf1 h H | exact absurd h (by decide) | skip)
  | ((with_reducible refine Ob.mk ?_); first | (with_reducible rfl) | (first | ((repeat (first | (with_reducible exact grd_p H) | replace H := grd_k H | replace H := os1 H ‹_›)); done) | rfl | ((repeat (first | exact grd_p H | (have hp := grd_p H; exact hp) | replace H := grd_k H | replace H := os1 H ‹_› | (replace H := bind_some H; obtain ⟨_, _, H⟩ := H))); done) | (repeat (first | exact grd_p H | replace H := grd_k H | replace H := os1 H ‹_›))))
  | (with_reducible exact True.intro)
  | ((conv => whnf); first
      | (with_reducible refine And.intro ?_ ?_)
      | (with_reducible exact True.intro)
      | (with_reducible refine (?_ : Ob _))
      | ((with_reducible refine CallW.mk ?_); (repeat first | replace H := grd_k H | replace H := os1 H ‹_›); replace H := bind_some H; obtain ⟨y, hy, H⟩ := H; first | ((with_reducible have hz : slI _ _ _ = some y := hy); clear hz; refine ⟨_, _, slI.call hy ?_, rfl, rfl, ?_⟩) | ((with_reducible have hz : slG _ = some y := hy); clear hz; refine ⟨_, _, slG.call hy ?_, rfl, rfl, ?_⟩))
      | ((with_reducible refine fm ?_); (repeat first | replace H := grd_k H | replace H := os1 H ‹_›); have H := Option.some.inj H; subst H))
  | constructor
def G117 : Env := G103.add 67 [] sNR.S
theorem G117_ok : EnvOk Tryz.prog G117 := G103_ok.add ent_67 fun ar h r h1 ⟨a0, a1, y, hy, e1, e2, e3, e4⟩ => by
 subst e3 e4; exact (sNR.spec a0 a1 y hy).le e1 e2
attribute [local irreducible] sNR

end Go.Proofs.YtaobinhdnklojaaGreatDoor
