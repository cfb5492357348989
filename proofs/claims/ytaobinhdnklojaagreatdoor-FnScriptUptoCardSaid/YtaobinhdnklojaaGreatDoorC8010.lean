/-
  Contracts, printed by a program.
-/
import Derived.Test.YtaobinhdnklojaaGreatDoorC806
namespace Go.Proofs.YtaobinhdnklojaaGreatDoor
open Go.RowKit
set_option maxHeartbeats 100000000
set_option maxRecDepth 100000
attribute [local irreducible] Ob l5 Sub Spec Fin Again CallW CutC KOb iter

attribute [local irreducible] slI slG slN slNf slO slS1 sSR slL1 slC

noncomputable def slM (a0 : C1) (a1 : Int) (a2 : Int) : Option ((C1 × ByteArray × (List Slot)) ⊕ (C1 × ByteArray × (List Slot))) :=
 ((sSR (a0.1.1, a0.1.2.1, a0.1.2.2.1, a0.1.2.2.2.1, a0.1.2.2.2.2.1, ()) (a1, a2, ())).bind (Sum.elim (fun _ => (some (Sum.inl (((a0.1.1, a0.1.2.1, a0.1.2.2.1, a0.1.2.2.2.1, a0.1.2.2.2.2.1, ()), (a0.2.1.1, a0.2.1.2.1, a0.2.1.2.2.1, ()), ()), (ByteArray.mk #[63]), a0.1.2.1)))) (fun y3 => (cond (decide (a1 = (1 : Int))) (grd (0 ≤ a2 ∧ a2 < ([(ByteArray.mk #[115, 116, 111, 112, 112, 101, 100]), (ByteArray.mk #[115, 108, 111, 119]), (ByteArray.mk #[110, 111, 114, 109, 97, 108]), (ByteArray.mk #[108, 111, 99, 107, 101, 100])].length : Int)) ((some (Sum.inr (((y3.1, y3.2.1, y3.2.2.1, y3.2.2.2.1, y3.2.2.2.2.1, ()), (a0.2.1.1, a0.2.1.2.1, a0.2.1.2.2.1, ()), ()), ([(ByteArray.mk #[115, 116, 111, 112, 112, 101, 100]), (ByteArray.mk #[115, 108, 111, 119]), (ByteArray.mk #[110, 111, 114, 109, 97, 108]), (ByteArray.mk #[108, 111, 99, 107, 101, 100])].getD a2.toNat (ByteArray.mk #[])), a0.1.2.1))))) ((cond (decide (a1 = (2 : Int))) ((some (true, y3.1, y3.2.2.1, y3.2.2.2.1, y3.2.2.2.2.1, y3.1, y3.2.2.1, y3.2.2.2.1, y3.2.2.2.2.1, y3.2.1))) (cond (decide (a1 = (3 : Int))) ((some (true, y3.1, y3.2.2.1, y3.2.2.2.1, y3.2.2.2.2.1, y3.1, y3.2.2.1, y3.2.2.2.1, y3.2.2.2.2.1, y3.2.1))) ((some ((decide (a1 = (4 : Int))), y3.1, y3.2.2.1, y3.2.2.2.1, y3.2.2.2.2.1, y3.1, y3.2.2.1, y3.2.2.2.1, y3.2.2.2.2.1, y3.2.1))))).bind fun z4 => (cond z4.1 ((slC (z4.2.1, z4.2.2.2.2.2.2.2.2.2, z4.2.2.1, z4.2.2.2.1, z4.2.2.2.2.1, ())).bind fun y5 => (some (Sum.inr (((z4.2.2.2.2.2.1, z4.2.2.2.2.2.2.2.2.2, z4.2.2.2.2.2.2.1, z4.2.2.2.2.2.2.2.1, z4.2.2.2.2.2.2.2.2.1, ()), (a0.2.1.1, a0.2.1.2.1, a0.2.1.2.2.1, ()), ()), y5, a0.1.2.1)))) (cond (decide (a1 = (7 : Int))) ((slS1 (z4.2.1, z4.2.2.2.2.2.2.2.2.2, z4.2.2.1, z4.2.2.2.1, z4.2.2.2.2.1, ()) a2).bind fun y6 => (grd (0 ≤ y6 ∧ y6 < (z4.2.2.2.2.2.2.2.2.2.length : Int)) (cond ((z4.2.2.2.2.2.2.2.2.2.getD y6.toNat dS).2.1) ((some (Sum.inr (((z4.2.2.2.2.2.1, z4.2.2.2.2.2.2.2.2.2, z4.2.2.2.2.2.2.1, z4.2.2.2.2.2.2.2.1, z4.2.2.2.2.2.2.2.2.1, ()), (a0.2.1.1, a0.2.1.2.1, a0.2.1.2.2.1, ()), ()), (ByteArray.mk #[111, 112, 101, 110]), a0.1.2.1)))) ((some (Sum.inr (((z4.2.2.2.2.2.1, z4.2.2.2.2.2.2.2.2.2, z4.2.2.2.2.2.2.1, z4.2.2.2.2.2.2.2.1, z4.2.2.2.2.2.2.2.2.1, ()), (a0.2.1.1, a0.2.1.2.1, a0.2.1.2.2.1, ()), ()), (ByteArray.mk #[115, 104, 117, 116]), a0.1.2.1))))))) ((slS1 (z4.2.1, z4.2.2.2.2.2.2.2.2.2, z4.2.2.1, z4.2.2.2.1, z4.2.2.2.2.1, ()) a2).bind fun y7 => (grd (0 ≤ y7 ∧ y7 < (z4.2.2.2.2.2.2.2.2.2.length : Int)) ((slN ((z4.2.2.2.2.2.2.2.2.2.getD y7.toNat dS).2.2.1)).bind fun y8 => (some (Sum.inr (((z4.2.2.2.2.2.1, z4.2.2.2.2.2.2.2.2.2, z4.2.2.2.2.2.2.1, z4.2.2.2.2.2.2.2.1, z4.2.2.2.2.2.2.2.2.1, ()), (a0.2.1.1, a0.2.1.2.1, a0.2.1.2.2.1, ()), ()), y8, a0.1.2.1)))))))))))))
def slM.res (_ : C1) (_ : Int) (_ : Int) (y : (C1 × ByteArray × (List Slot)) ⊕ (C1 × ByteArray × (List Slot))) : AV := match y with
 | (.inl y) => (.tup [(.agg [(.v (.int .i64 y.1.1.1)), (.own 0), (.v (.int .i64 y.1.1.2.2.1)), (.v (.int .i64 y.1.1.2.2.2.1)), (.v (.int .i64 y.1.1.2.2.2.2.1)), (.v (.string y.1.2.1.1)), (.v (.string y.1.2.1.2.1)), (.v (.int .i64 y.1.2.1.2.2.1))]), (.v (.string y.2.1))])
 | (.inr y) => (.tup [(.agg [(.v (.int .i64 y.1.1.1)), (.own 1), (.v (.int .i64 y.1.1.2.2.1)), (.v (.int .i64 y.1.1.2.2.2.1)), (.v (.int .i64 y.1.1.2.2.2.2.1)), (.v (.string y.1.2.1.1)), (.v (.string y.1.2.1.2.1)), (.v (.int .i64 y.1.2.1.2.2.1))]), (.v (.string y.2.1))])
def slM.out (_ : C1) (_ : Int) (_ : Int) (y : (C1 × ByteArray × (List Slot)) ⊕ (C1 × ByteArray × (List Slot))) : List (Option LB) := match y with
 | (.inl y) => [some (.arr 96 tS y.2.2)]
 | (.inr y) => [some (.arr 96 tS y.2.2), some (.arr 96 tS y.1.1.2.1)]
def slM.S (ar : List AV) (h : List (Option LB)) (r : AV) (h1 : List (Option LB)) : Prop := ∃ a0 a1 a2 y, slM a0 a1 a2 = some y ∧ leL ar [(.agg [(.v (.int .i64 a0.1.1)), (.own 0), (.v (.int .i64 a0.1.2.2.1)), (.v (.int .i64 a0.1.2.2.2.1)), (.v (.int .i64 a0.1.2.2.2.2.1)), (.v (.string a0.2.1.1)), (.v (.string a0.2.1.2.1)), (.v (.int .i64 a0.2.1.2.2.1))]), (.v (.int .i64 a1)), (.v (.int .i64 a2))] ∧ leH h [some (.arr 96 tS a0.1.2.1)] ∧ r = slM.res a0 a1 a2 y ∧ h1 = slM.out a0 a1 a2 y
theorem slM.call {ar h a0 a1 a2 y} (H : slM a0 a1 a2 = some y) (h0 : leLk ar [(.agg [(.v (.int .i64 a0.1.1)), (.own 0), (.v (.int .i64 a0.1.2.2.1)), (.v (.int .i64 a0.1.2.2.2.1)), (.v (.int .i64 a0.1.2.2.2.2.1)), (.v (.string a0.2.1.1)), (.v (.string a0.2.1.2.1)), (.v (.int .i64 a0.2.1.2.2.1))]), (.v (.int .i64 a1)), (.v (.int .i64 a2))] (leHk h [some (.arr 96 tS a0.1.2.1)])) : slM.S ar h (slM.res a0 a1 a2 y) (slM.out a0 a1 a2 y) := ⟨a0, a1, a2, y, H, (ao h0).1, (ao h0).2, rfl, rfl⟩
theorem slM.spec (a0 a1 a2 y) (H : slM a0 a1 a2 = some y) : Spec Tryz.prog 114 [(.agg [(.v (.int .i64 a0.1.1)), (.own 0), (.v (.int .i64 a0.1.2.2.1)), (.v (.int .i64 a0.1.2.2.2.1)), (.v (.int .i64 a0.1.2.2.2.2.1)), (.v (.string a0.2.1.1)), (.v (.string a0.2.1.2.1)), (.v (.int .i64 a0.2.1.2.2.1))]), (.v (.int .i64 a1)), (.v (.int .i64 a2))] [some (.arr 96 tS a0.1.2.1)] (slM.res a0 a1 a2 y) (slM.out a0 a1 a2 y) := by
 have hlen : Nat.ble ([some (.arr 96 tS a0.1.2.1)] : List (Option LB)).length (slM.out a0 a1 a2 y).length = true := by
  rcases y with y | y <;> rfl
 refine si (G36_ok.at tok []) (ct := [(12, none), (2, some [1, 2, 3, 6, 8, 9]), (11, some [2, 6, 8, 10, 26, 34]), (17, some [2, 6, 8, 10])]) Tryz.func114 rfl (by kernel_rfl) (by kernel_rfl) hlen ?_
 repeat' first
  | ((with_reducible refine eqg ?_); exact rfl)
  | ((with_reducible refine KOb.mk ?_); kernel_rfl)
  | ((with_reducible intro h); (repeat first | replace H := grd_k H | replace H := os1 H ‹_›); first | replace H := ct1 h H | replace H := cf1 h H | exact absurd h (by decide) | skip)
  | ((with_reducible refine Ob.mk ?_); first | (with_reducible rfl) | (first | ((repeat (first | (with_reducible exact grd_p H) | replace H := grd_k H | replace H := os1 H ‹_›)); done) | rfl | ((repeat (first | exact grd_p H | (have hp := grd_p H; exact hp) | replace H := grd_k H | replace H := os1 H ‹_› | (replace H := bind_some H; obtain ⟨_, _, H⟩ := H))); done) | (repeat (first | exact grd_p H | replace H := grd_k H | replace H := os1 H ‹_›))))
  | (with_reducible exact True.intro)
  | ((conv => whnf); first
      | (with_reducible refine And.intro ?_ ?_)
      | (with_reducible exact True.intro)
      | (with_reducible refine (?_ : Ob _))
      | ((with_reducible refine CallW.mk ?_); (repeat first | replace H := grd_k H | replace H := os1 H ‹_›); replace H := bind_some H; obtain ⟨y, hy, H⟩ := H; first | ((with_reducible have hz : sSR _ _ = some y := hy); clear hz; rcases y with y | y <;> refine ⟨_, _, sSR.call hy ?_, rfl, rfl, ?_⟩) | ((with_reducible have hz : slC _ = some y := hy); clear hz; refine ⟨_, _, slC.call hy ?_, rfl, rfl, ?_⟩) | ((with_reducible have hz : slS1 _ _ = some y := hy); clear hz; refine ⟨_, _, slS1.call hy ?_, rfl, rfl, ?_⟩) | ((with_reducible have hz : slN _ = some y := hy); clear hz; refine ⟨_, _, slN.call hy ?_, rfl, rfl, ?_⟩))
      | ((with_reducible refine cutAt (id := 12) ?_); (repeat first | replace H := grd_k H | replace H := os1 H ‹_›); first | (replace H := bind_some H; obtain ⟨z, hz, H⟩ := H; refine CutC.mk (id := 12) ⟨sl [(2, (.v (.int .i64 a2))), (6, (.loc 1 0 0)), (8, (.loc 2 0 0)), (10, (.loc 3 0 0)), (26, (.v (.int .i64 a1))), (34, (.bl z.1))], [some (.arr 96 tS a0.1.2.1), some (.box 40 [(.v (.int .i64 (0 : Int))), (.v (.slice none 0 0)), (.v (.int .i64 (0 : Int))), (.v (.int .i64 (0 : Int))), (.v (.int .i64 (0 : Int))), (.v (.string (ByteArray.mk #[]))), (.v (.string (ByteArray.mk #[]))), (.v (.int .i64 (0 : Int)))]), some (.box 38 [(.v (.int .i64 z.2.1)), (.own 4), (.v (.int .i64 z.2.2.1)), (.v (.int .i64 z.2.2.2.1)), (.v (.int .i64 z.2.2.2.2.1))]), some (.box 40 [(.v (.int .i64 z.2.2.2.2.2.1)), (.own 4), (.v (.int .i64 z.2.2.2.2.2.2.1)), (.v (.int .i64 z.2.2.2.2.2.2.2.1)), (.v (.int .i64 z.2.2.2.2.2.2.2.2.1)), (.v (.string a0.2.1.1)), (.v (.string a0.2.1.2.1)), (.v (.int .i64 a0.2.1.2.2.1))]), some (.arr 96 tS z.2.2.2.2.2.2.2.2.2)]⟩ ?_ ?_; (replace H := hz)))
      | ((repeat first | replace H := grd_k H | replace H := os1 H ‹_›); have H := Option.some.inj H; subst H; with_reducible refine sa ?_)
      | ((with_reducible refine fm ?_); (repeat first | replace H := grd_k H | replace H := os1 H ‹_›); have H := Option.some.inj H; subst H))
  | constructor
def G37 : Env := G36.add 114 [true] slM.S
theorem G37_ok : EnvOk Tryz.prog G37 := G36_ok.add ent_114 fun ar h r h1 ⟨a0, a1, a2, y, hy, e1, e2, e3, e4⟩ => by
 subst e3 e4; exact (slM.spec a0 a1 a2 y hy).le e1 e2
attribute [local irreducible] slM

noncomputable def slSl1 (a0 : R1) (v4 : Int) (v5 : Int) (v6 : Int) : Option (Lp (Int × Int × Int) ((Int × Int))) :=
 (cond (decide (v6 < (a0.2.1.length : Int))) (grd (0 ≤ v6 ∧ v6 < (a0.2.1.length : Int)) (cond (!decide (v6 = (0 : Int))) (grd ((2 : Int) ≠ 0) (cond (!decide (v6 = (w64 (Int.tdiv (a0.2.1.length : Int) (2 : Int))))) (grd (0 ≤ v6 ∧ v6 < (a0.2.1.length : Int)) (some (.go ((w64 (v4 + ((a0.2.1.getD v6.toNat dS).2.2.1))), (w64 (v5 + ((a0.2.1.getD v6.toNat dS).2.2.1))), (w64 (v6 + (1 : Int))))))) (some (.go ((w64 (v4 + ((a0.2.1.getD v6.toNat dS).2.2.1))), v5, (w64 (v6 + (1 : Int)))))))) (some (.go ((w64 (v4 + ((a0.2.1.getD v6.toNat dS).2.2.1))), v5, (w64 (v6 + (1 : Int)))))))) ((some (.out (v4, v5)))))
noncomputable def slS4 (a0 : R1) : Option (Int × Int) :=
 ((iter (fun s => slSl1 a0 s.1 s.2.1 s.2.2) ((0 : Int), (0 : Int), (0 : Int))).bind (fun r7 => (some (r7.1, r7.2))))
def slS4.res (_ : R1) (y : Int × Int) : AV := (.tup [(.v (.int .i64 y.1)), (.v (.int .i64 y.2))])
def slS4.out (_ : R1) (_ : Int × Int) : List (Option LB) := []
def slS4.S (ar : List AV) (h : List (Option LB)) (r : AV) (h1 : List (Option LB)) : Prop := ∃ a0 y, slS4 a0 = some y ∧ leL ar [(.agg [(.v (.int .i64 a0.1)), (.tree tS a0.2.1), (.v (.int .i64 a0.2.2.1)), (.v (.int .i64 a0.2.2.2.1)), (.v (.int .i64 a0.2.2.2.2.1))])] ∧ leH h [] ∧ r = slS4.res a0 y ∧ h1 = slS4.out a0 y
theorem slS4.call {ar h a0 y} (H : slS4 a0 = some y) (h0 : leLk ar [(.agg [(.v (.int .i64 a0.1)), (.tree tS a0.2.1), (.v (.int .i64 a0.2.2.1)), (.v (.int .i64 a0.2.2.2.1)), (.v (.int .i64 a0.2.2.2.2.1))])] (leHk h [])) : slS4.S ar h (slS4.res a0 y) (slS4.out a0 y) := ⟨a0, y, H, (ao h0).1, (ao h0).2, rfl, rfl⟩
theorem slS4.spec (a0 y) (H : slS4 a0 = some y) : Spec Tryz.prog 115 [(.agg [(.v (.int .i64 a0.1)), (.tree tS a0.2.1), (.v (.int .i64 a0.2.2.1)), (.v (.int .i64 a0.2.2.2.1)), (.v (.int .i64 a0.2.2.2.2.1))])] [] (slS4.res a0 y) (slS4.out a0 y) := by
 refine si (G37_ok.at tok []) (ct := [(4, some [1, 4, 5, 6, 25, 26, 27, 28, 29, 30]), (6, some [1, 4, 5, 6, 25, 26, 27, 28, 29, 30])]) Tryz.func115 rfl (by kernel_rfl) (by kernel_rfl) rfl ?_
 repeat' first
  | ((with_reducible refine eqg ?_); exact rfl)
  | ((with_reducible refine KOb.mk ?_); kernel_rfl)
  | ((with_reducible intro h); (repeat first | replace H := grd_k H | replace H := os1 H ‹_›); first | replace H := ct1 h H | replace H := cf1 h H | exact absurd h (by decide) | skip)
  | ((with_reducible refine Ob.mk ?_); first | (with_reducible rfl) | (first | ((repeat (first | (with_reducible exact grd_p H) | replace H := grd_k H | replace H := os1 H ‹_›)); done) | rfl | ((repeat (first | exact grd_p H | (have hp := grd_p H; exact hp) | replace H := grd_k H | replace H := os1 H ‹_› | (replace H := bind_some H; obtain ⟨_, _, H⟩ := H))); done) | (repeat (first | exact grd_p H | replace H := grd_k H | replace H := os1 H ‹_›))))
  | (with_reducible exact True.intro)
  | ((conv => whnf); first
      | (with_reducible refine And.intro ?_ ?_)
      | (with_reducible exact True.intro)
      | (with_reducible refine (?_ : Ob _))
      | ((repeat first | replace H := grd_k H | replace H := os1 H ‹_›); refine li1 (G37_ok.at tok []) (ct := [(4, some [1, 4, 5, 6, 25, 26, 27, 28, 29, 30]), (6, some [1, 4, 5, 6, 25, 26, 27, 28, 29, 30])]) (F := (fun s1 : Int × Int × Int => ⟨sl [(1, (.loc 0 0 0)), (4, (.v (.int .i64 s1.1))), (5, (.v (.int .i64 s1.2.1))), (6, (.v (.int .i64 s1.2.2)))], [some (.box 38 [(.v (.int .i64 a0.1)), (.tree tS a0.2.1), (.v (.int .i64 a0.2.2.1)), (.v (.int .i64 a0.2.2.2.1)), (.v (.int .i64 a0.2.2.2.2.1))])]⟩)) (step := (fun s : Int × Int × Int => slSl1 _ s.1 s.2.1 s.2.2)) _ H (by kernel_rfl) (sa ?_) ?_; rotate_left; (intro s1 r v hr H); rotate_right)
      | ((repeat first | replace H := grd_k H | replace H := os1 H ‹_›); refine as1 H (by assumption) (sa ?_))
      | ((with_reducible refine fm ?_); (repeat first | replace H := grd_k H | replace H := os1 H ‹_›); have H := Option.some.inj H; subst H))
  | constructor
def G38 : Env := G37.add 115 [] slS4.S
theorem G38_ok : EnvOk Tryz.prog G38 := G37_ok.add ent_115 fun ar h r h1 ⟨a0, y, hy, e1, e2, e3, e4⟩ => by
 subst e3 e4; exact (slS4.spec a0 y hy).le e1 e2
attribute [local irreducible] slS4

noncomputable def sIC (a0 : R1) : Option (Bool × Bool) :=
 ((slG (a0.1, a0.2.1, a0.2.2.1, a0.2.2.2.1, a0.2.2.2.2.1, ())).bind fun y1 => (cond (!y1) ((some (false, false))) ((slS4 (a0.1, a0.2.1, a0.2.2.1, a0.2.2.2.1, a0.2.2.2.2.1, ())).bind fun y2 => (cond (decide (a0.2.2.2.1 = (0 : Int))) ((some ((decide (y2.1 = (0 : Int))), true))) ((some (false, true)))))))
def sIC.res (_ : R1) (y : Bool × Bool) : AV := (.tup [(.bl y.1), (.bl y.2)])
def sIC.out (_ : R1) (_ : Bool × Bool) : List (Option LB) := []
def sIC.S (ar : List AV) (h : List (Option LB)) (r : AV) (h1 : List (Option LB)) : Prop := ∃ a0 y, sIC a0 = some y ∧ leL ar [(.agg [(.v (.int .i64 a0.1)), (.tree tS a0.2.1), (.v (.int .i64 a0.2.2.1)), (.v (.int .i64 a0.2.2.2.1)), (.v (.int .i64 a0.2.2.2.2.1))])] ∧ leH h [] ∧ r = sIC.res a0 y ∧ h1 = sIC.out a0 y
theorem sIC.call {ar h a0 y} (H : sIC a0 = some y) (h0 : leLk ar [(.agg [(.v (.int .i64 a0.1)), (.tree tS a0.2.1), (.v (.int .i64 a0.2.2.1)), (.v (.int .i64 a0.2.2.2.1)), (.v (.int .i64 a0.2.2.2.2.1))])] (leHk h [])) : sIC.S ar h (sIC.res a0 y) (sIC.out a0 y) := ⟨a0, y, H, (ao h0).1, (ao h0).2, rfl, rfl⟩
theorem sIC.spec (a0 y) (H : sIC a0 = some y) : Spec Tryz.prog 118 [(.agg [(.v (.int .i64 a0.1)), (.tree tS a0.2.1), (.v (.int .i64 a0.2.2.1)), (.v (.int .i64 a0.2.2.2.1)), (.v (.int .i64 a0.2.2.2.2.1))])] [] (sIC.res a0 y) (sIC.out a0 y) := by
 refine si (G38_ok.at tok []) (ct := [(4, some [1, 4, 18, 19])]) Tryz.func118 rfl (by kernel_rfl) (by kernel_rfl) rfl ?_
 repeat' first
  | ((with_reducible refine eqg ?_); exact rfl)
  | ((with_reducible refine KOb.mk ?_); kernel_rfl)
  | ((with_reducible intro h); (repeat first | replace H := grd_k H | replace H := os1 H ‹_›); first | replace H := ct1 h H | replace H := cf1 h H | exact absurd h (by decide) | skip)
  | ((with_reducible refine Ob.mk ?_); first | (with_reducible rfl) | (first | ((repeat (first | (with_reducible exact grd_p H) | replace H := grd_k H | replace H := os1 H ‹_›)); done) | rfl | ((repeat (first | exact grd_p H | (have hp := grd_p H; exact hp) | replace H := grd_k H | replace H := os1 H ‹_› | (replace H := bind_some H; obtain ⟨_, _, H⟩ := H))); done) | (repeat (first | exact grd_p H | replace H := grd_k H | replace H := os1 H ‹_›))))
  | (with_reducible exact True.intro)
  | ((conv => whnf); first
      | (with_reducible refine And.intro ?_ ?_)
      | (with_reducible exact True.intro)
      | (with_reducible refine (?_ : Ob _))
      | ((with_reducible refine CallW.mk ?_); (repeat first | replace H := grd_k H | replace H := os1 H ‹_›); replace H := bind_some H; obtain ⟨y, hy, H⟩ := H; first | ((with_reducible have hz : slG _ = some y := hy); clear hz; refine ⟨_, _, slG.call hy ?_, rfl, rfl, ?_⟩) | ((with_reducible have hz : slS4 _ = some y := hy); clear hz; refine ⟨_, _, slS4.call hy ?_, rfl, rfl, ?_⟩))
      | ((with_reducible refine fm ?_); (repeat first | replace H := grd_k H | replace H := os1 H ‹_›); have H := Option.some.inj H; subst H))
  | constructor
def G39 : Env := G38.add 118 [] sIC.S
theorem G39_ok : EnvOk Tryz.prog G39 := G38_ok.add ent_118 fun ar h r h1 ⟨a0, y, hy, e1, e2, e3, e4⟩ => by
 subst e3 e4; exact (sIC.spec a0 y hy).le e1 e2
attribute [local irreducible] sIC

noncomputable def slW (a0 : C1) (a1 : ByteArray) : Option ((C1 × ByteArray × (List Slot)) ⊕ (C1 × ByteArray × (List Slot))) :=
 (cond (decide (a1 = (ByteArray.mk #[115, 116, 111, 112]))) ((slM ((a0.1.1, a0.1.2.1, a0.1.2.2.1, a0.1.2.2.2.1, a0.1.2.2.2.2.1, ()), (a0.2.1.1, a0.2.1.2.1, a0.2.1.2.2.1, ()), ()) (1 : Int) (0 : Int)).bind (Sum.elim (fun y2 => (some (Sum.inl (((y2.1.1.1, y2.2.2, y2.1.1.2.2.1, y2.1.1.2.2.2.1, y2.1.1.2.2.2.2.1, ()), (y2.1.2.1.1, y2.1.2.1.2.1, y2.1.2.1.2.2.1, ()), ()), y2.2.1, y2.2.2)))) (fun y3 => (some (Sum.inr (((y3.1.1.1, y3.1.1.2.1, y3.1.1.2.2.1, y3.1.1.2.2.2.1, y3.1.1.2.2.2.2.1, ()), (y3.1.2.1.1, y3.1.2.1.2.1, y3.1.2.1.2.2.1, ()), ()), y3.2.1, y3.2.2)))))) (cond (decide (a1 = (ByteArray.mk #[115, 108, 111, 119]))) ((slM ((a0.1.1, a0.1.2.1, a0.1.2.2.1, a0.1.2.2.2.1, a0.1.2.2.2.2.1, ()), (a0.2.1.1, a0.2.1.2.1, a0.2.1.2.2.1, ()), ()) (1 : Int) (1 : Int)).bind (Sum.elim (fun y5 => (some (Sum.inl (((y5.1.1.1, y5.2.2, y5.1.1.2.2.1, y5.1.1.2.2.2.1, y5.1.1.2.2.2.2.1, ()), (y5.1.2.1.1, y5.1.2.1.2.1, y5.1.2.1.2.2.1, ()), ()), y5.2.1, y5.2.2)))) (fun y6 => (some (Sum.inr (((y6.1.1.1, y6.1.1.2.1, y6.1.1.2.2.1, y6.1.1.2.2.2.1, y6.1.1.2.2.2.2.1, ()), (y6.1.2.1.1, y6.1.2.1.2.1, y6.1.2.1.2.2.1, ()), ()), y6.2.1, y6.2.2)))))) (cond (decide (a1 = (ByteArray.mk #[102, 97, 115, 116]))) ((slM ((a0.1.1, a0.1.2.1, a0.1.2.2.1, a0.1.2.2.2.1, a0.1.2.2.2.2.1, ()), (a0.2.1.1, a0.2.1.2.1, a0.2.1.2.2.1, ()), ()) (1 : Int) (2 : Int)).bind (Sum.elim (fun y8 => (some (Sum.inl (((y8.1.1.1, y8.2.2, y8.1.1.2.2.1, y8.1.1.2.2.2.1, y8.1.1.2.2.2.2.1, ()), (y8.1.2.1.1, y8.1.2.1.2.1, y8.1.2.1.2.2.1, ()), ()), y8.2.1, y8.2.2)))) (fun y9 => (some (Sum.inr (((y9.1.1.1, y9.1.1.2.1, y9.1.1.2.2.1, y9.1.1.2.2.2.1, y9.1.1.2.2.2.2.1, ()), (y9.1.2.1.1, y9.1.2.1.2.1, y9.1.2.1.2.2.1, ()), ()), y9.2.1, y9.2.2)))))) (cond (decide (a1 = (ByteArray.mk #[108, 111, 99, 107]))) ((slM ((a0.1.1, a0.1.2.1, a0.1.2.2.1, a0.1.2.2.2.1, a0.1.2.2.2.2.1, ()), (a0.2.1.1, a0.2.1.2.1, a0.2.1.2.2.1, ()), ()) (1 : Int) (3 : Int)).bind (Sum.elim (fun y11 => (some (Sum.inl (((y11.1.1.1, y11.2.2, y11.1.1.2.2.1, y11.1.1.2.2.2.1, y11.1.1.2.2.2.2.1, ()), (y11.1.2.1.1, y11.1.2.1.2.1, y11.1.2.1.2.2.1, ()), ()), y11.2.1, y11.2.2)))) (fun y12 => (some (Sum.inr (((y12.1.1.1, y12.1.1.2.1, y12.1.1.2.2.1, y12.1.1.2.2.2.1, y12.1.1.2.2.2.2.1, ()), (y12.1.2.1.1, y12.1.2.1.2.1, y12.1.2.1.2.2.1, ()), ()), y12.2.1, y12.2.2)))))) (cond (decide (a1 = (ByteArray.mk #[116, 117, 114, 110]))) ((slM ((a0.1.1, a0.1.2.1, a0.1.2.2.1, a0.1.2.2.2.1, a0.1.2.2.2.2.1, ()), (a0.2.1.1, a0.2.1.2.1, a0.2.1.2.2.1, ()), ()) (2 : Int) (0 : Int)).bind (Sum.elim (fun y14 => (some (Sum.inl (((y14.1.1.1, y14.2.2, y14.1.1.2.2.1, y14.1.1.2.2.2.1, y14.1.1.2.2.2.2.1, ()), (y14.1.2.1.1, y14.1.2.1.2.1, y14.1.2.1.2.2.1, ()), ()), y14.2.1, y14.2.2)))) (fun y15 => (some (Sum.inr (((y15.1.1.1, y15.1.1.2.1, y15.1.1.2.2.1, y15.1.1.2.2.2.1, y15.1.1.2.2.2.2.1, ()), (y15.1.2.1.1, y15.1.2.1.2.1, y15.1.2.1.2.2.1, ()), ()), y15.2.1, y15.2.2)))))) (cond (decide (a1 = (ByteArray.mk #[116, 97, 107, 101]))) ((slM ((a0.1.1, a0.1.2.1, a0.1.2.2.1, a0.1.2.2.2.1, a0.1.2.2.2.2.1, ()), (a0.2.1.1, a0.2.1.2.1, a0.2.1.2.2.1, ()), ()) (4 : Int) (0 : Int)).bind (Sum.elim (fun y17 => (some (Sum.inl (((y17.1.1.1, y17.2.2, y17.1.1.2.2.1, y17.1.1.2.2.2.1, y17.1.1.2.2.2.2.1, ()), (y17.1.2.1.1, y17.1.2.1.2.1, y17.1.2.1.2.2.1, ()), ()), y17.2.1, y17.2.2)))) (fun y18 => (some (Sum.inr (((y18.1.1.1, y18.1.1.2.1, y18.1.1.2.2.1, y18.1.1.2.2.2.1, y18.1.1.2.2.2.2.1, ()), (y18.1.2.1.1, y18.1.2.1.2.1, y18.1.2.1.2.2.1, ()), ()), y18.2.1, y18.2.2)))))) (cond (decide (a1 = (ByteArray.mk #[112, 101, 111, 112, 108, 101]))) ((slS4 (a0.1.1, a0.1.2.1, a0.1.2.2.1, a0.1.2.2.2.1, a0.1.2.2.2.2.1, ())).bind fun y19 => ((slL1 [a0.1.2.2.1, y19.1, a0.1.2.2.2.1, a0.1.2.2.2.2.1] true).bind fun y20 => (some (Sum.inl (((a0.1.1, a0.1.2.1, a0.1.2.2.1, a0.1.2.2.2.1, a0.1.2.2.2.2.1, ()), (a0.2.1.1, a0.2.1.2.1, a0.2.1.2.2.1, ()), ()), y20, a0.1.2.1))))) (cond (decide (a1 = (ByteArray.mk #[100, 111, 111, 114, 115]))) ((slO (a0.1.1, a0.1.2.1, a0.1.2.2.1, a0.1.2.2.2.1, a0.1.2.2.2.2.1, ())).bind fun y21 => ((slL1 y21 true).bind fun y22 => (some (Sum.inl (((a0.1.1, a0.1.2.1, a0.1.2.2.1, a0.1.2.2.2.1, a0.1.2.2.2.2.1, ()), (a0.2.1.1, a0.2.1.2.1, a0.2.1.2.2.1, ()), ()), y22, a0.1.2.1))))) (cond (decide (a1 = (ByteArray.mk #[99, 108, 101, 97, 114]))) ((sIC (a0.1.1, a0.1.2.1, a0.1.2.2.1, a0.1.2.2.2.1, a0.1.2.2.2.2.1, ())).bind fun y23 => (cond y23.1 ((some (Sum.inl (((a0.1.1, a0.1.2.1, a0.1.2.2.1, a0.1.2.2.2.1, a0.1.2.2.2.2.1, ()), (a0.2.1.1, a0.2.1.2.1, a0.2.1.2.2.1, ()), ()), (ByteArray.mk #[121, 101, 115]), a0.1.2.1)))) ((some (Sum.inl (((a0.1.1, a0.1.2.1, a0.1.2.2.1, a0.1.2.2.2.1, a0.1.2.2.2.2.1, ()), (a0.2.1.1, a0.2.1.2.1, a0.2.1.2.2.1, ()), ()), (ByteArray.mk #[110, 111]), a0.1.2.1)))))) ((some (Sum.inl (((a0.1.1, a0.1.2.1, a0.1.2.2.1, a0.1.2.2.2.1, a0.1.2.2.2.2.1, ()), (a0.2.1.1, a0.2.1.2.1, a0.2.1.2.2.1, ()), ()), (ByteArray.mk #[63]), a0.1.2.1)))))))))))))
def slW.res (_ : C1) (_ : ByteArray) (y : (C1 × ByteArray × (List Slot)) ⊕ (C1 × ByteArray × (List Slot))) : AV := match y with
 | (.inl y) => (.tup [(.agg [(.v (.int .i64 y.1.1.1)), (.own 0), (.v (.int .i64 y.1.1.2.2.1)), (.v (.int .i64 y.1.1.2.2.2.1)), (.v (.int .i64 y.1.1.2.2.2.2.1)), (.v (.string y.1.2.1.1)), (.v (.string y.1.2.1.2.1)), (.v (.int .i64 y.1.2.1.2.2.1))]), (.v (.string y.2.1))])
 | (.inr y) => (.tup [(.agg [(.v (.int .i64 y.1.1.1)), (.own 1), (.v (.int .i64 y.1.1.2.2.1)), (.v (.int .i64 y.1.1.2.2.2.1)), (.v (.int .i64 y.1.1.2.2.2.2.1)), (.v (.string y.1.2.1.1)), (.v (.string y.1.2.1.2.1)), (.v (.int .i64 y.1.2.1.2.2.1))]), (.v (.string y.2.1))])
def slW.out (_ : C1) (_ : ByteArray) (y : (C1 × ByteArray × (List Slot)) ⊕ (C1 × ByteArray × (List Slot))) : List (Option LB) := match y with
 | (.inl y) => [some (.arr 96 tS y.2.2)]
 | (.inr y) => [some (.arr 96 tS y.2.2), some (.arr 96 tS y.1.1.2.1)]
def slW.S (ar : List AV) (h : List (Option LB)) (r : AV) (h1 : List (Option LB)) : Prop := ∃ a0 a1 y, slW a0 a1 = some y ∧ leL ar [(.agg [(.v (.int .i64 a0.1.1)), (.own 0), (.v (.int .i64 a0.1.2.2.1)), (.v (.int .i64 a0.1.2.2.2.1)), (.v (.int .i64 a0.1.2.2.2.2.1)), (.v (.string a0.2.1.1)), (.v (.string a0.2.1.2.1)), (.v (.int .i64 a0.2.1.2.2.1))]), (.v (.string a1))] ∧ leH h [some (.arr 96 tS a0.1.2.1)] ∧ r = slW.res a0 a1 y ∧ h1 = slW.out a0 a1 y
theorem slW.call {ar h a0 a1 y} (H : slW a0 a1 = some y) (h0 : leLk ar [(.agg [(.v (.int .i64 a0.1.1)), (.own 0), (.v (.int .i64 a0.1.2.2.1)), (.v (.int .i64 a0.1.2.2.2.1)), (.v (.int .i64 a0.1.2.2.2.2.1)), (.v (.string a0.2.1.1)), (.v (.string a0.2.1.2.1)), (.v (.int .i64 a0.2.1.2.2.1))]), (.v (.string a1))] (leHk h [some (.arr 96 tS a0.1.2.1)])) : slW.S ar h (slW.res a0 a1 y) (slW.out a0 a1 y) := ⟨a0, a1, y, H, (ao h0).1, (ao h0).2, rfl, rfl⟩
theorem slW.spec (a0 a1 y) (H : slW a0 a1 = some y) : Spec Tryz.prog 79 [(.agg [(.v (.int .i64 a0.1.1)), (.own 0), (.v (.int .i64 a0.1.2.2.1)), (.v (.int .i64 a0.1.2.2.2.1)), (.v (.int .i64 a0.1.2.2.2.2.1)), (.v (.string a0.2.1.1)), (.v (.string a0.2.1.2.1)), (.v (.int .i64 a0.2.1.2.2.1))]), (.v (.string a1))] [some (.arr 96 tS a0.1.2.1)] (slW.res a0 a1 y) (slW.out a0 a1 y) := by
 have hlen : Nat.ble ([some (.arr 96 tS a0.1.2.1)] : List (Option LB)).length (slW.out a0 a1 y).length = true := by
  rcases y with y | y <;> rfl
 refine si (G39_ok.at tok []) (ct := [(10, some [2, 4, 6, 13, 32]), (22, some [2, 4, 9]), (25, some [2, 4])]) Tryz.func79 rfl (by kernel_rfl) (by kernel_rfl) hlen ?_
 repeat' first
  | ((with_reducible refine eqg ?_); exact rfl)
  | ((with_reducible refine KOb.mk ?_); kernel_rfl)
  | ((with_reducible intro h); (repeat first | replace H := grd_k H | replace H := os1 H ‹_›); first | replace H := ct1 h H | replace H := cf1 h H | exact absurd h (by decide) | skip)
  | ((with_reducible refine Ob.mk ?_); first | (with_reducible rfl) | (first | ((repeat (first | (with_reducible exact grd_p H) | replace H := grd_k H | replace H := os1 H ‹_›)); done) | rfl | ((repeat (first | exact grd_p H | (have hp := grd_p H; exact hp) | replace H := grd_k H | replace H := os1 H ‹_› | (replace H := bind_some H; obtain ⟨_, _, H⟩ := H))); done) | (repeat (first | exact grd_p H | replace H := grd_k H | replace H := os1 H ‹_›))))
  | (with_reducible exact True.intro)
  | ((conv => whnf); first
      | (with_reducible refine And.intro ?_ ?_)
      | (with_reducible exact True.intro)
      | (with_reducible refine (?_ : Ob _))
      | ((with_reducible refine CallW.mk ?_); (repeat first | replace H := grd_k H | replace H := os1 H ‹_›); replace H := bind_some H; obtain ⟨y, hy, H⟩ := H; first | ((with_reducible have hz : slM _ _ _ = some y := hy); clear hz; rcases y with y | y <;> refine ⟨_, _, slM.call hy ?_, rfl, rfl, ?_⟩) | ((with_reducible have hz : slS4 _ = some y := hy); clear hz; refine ⟨_, _, slS4.call hy ?_, rfl, rfl, ?_⟩) | ((with_reducible have hz : slL1 _ _ = some y := hy); clear hz; refine ⟨_, _, slL1.call hy ?_, rfl, rfl, ?_⟩) | ((with_reducible have hz : slO _ = some y := hy); clear hz; refine ⟨_, _, slO.call hy ?_, rfl, rfl, ?_⟩) | ((with_reducible have hz : sIC _ = some y := hy); clear hz; refine ⟨_, _, sIC.call hy ?_, rfl, rfl, ?_⟩))
      | ((with_reducible refine fm ?_); (repeat first | replace H := grd_k H | replace H := os1 H ‹_›); have H := Option.some.inj H; subst H))
  | constructor
def G40 : Env := G39.add 79 [true] slW.S
theorem G40_ok : EnvOk Tryz.prog G40 := G39_ok.add ent_79 fun ar h r h1 ⟨a0, a1, y, hy, e1, e2, e3, e4⟩ => by
 subst e3 e4; exact (slW.spec a0 a1 y hy).le e1 e2
attribute [local irreducible] slW

noncomputable def slRl  (v8 : ByteArray) (v9 : Int) (v10 : Int) : Option (Lp (ByteArray × Int × Int) ((Unit) ⊕ (ByteArray × Int))) :=
 (cond (decide (v10 < (v8.size : Int))) (grd (0 ≤ v10 ∧ v10 < (v8.size : Int)) (cond (decide ((bAt v8 v10) < (48 : Int))) ((some (.out (Sum.inl ())))) (grd (0 ≤ v10 ∧ v10 < (v8.size : Int)) (cond (decide ((57 : Int) < (bAt v8 v10))) ((some (.out (Sum.inl ())))) (grd (0 ≤ v10 ∧ v10 < (v8.size : Int)) (some (.go (v8, (w64 ((w64 ((10 : Int) * v9)) + (w64 (wu8 ((bAt v8 v10) - (48 : Int)))))), (w64 (v10 + (1 : Int))))))))))) ((some (.out (Sum.inr (v8, v9))))))
noncomputable def slR3 (a0 : ByteArray) : Option (Int × Bool) :=
 ((cond (decide ((1 : Int) < (a0.size : Int))) (grd (0 ≤ (0 : Int) ∧ (0 : Int) < (a0.size : Int)) (cond (decide ((bAt a0 (0 : Int)) = (45 : Int))) (grd (0 ≤ (1 : Int) ∧ (1 : Int) ≤ (a0.size : Int) ∧ (a0.size : Int) ≤ (a0.size : Int)) ((some (bsub a0 (1 : Int) (a0.size : Int))))) ((some a0)))) ((some a0))).bind fun z1 => ((slI (z1.size : Int) (1 : Int) (6 : Int)).bind fun y2 => (cond (!y2) ((some ((0 : Int), false))) ((iter (fun s => slRl s.1 s.2.1 s.2.2) (z1, (0 : Int), (0 : Int))).bind (Sum.elim (fun _ => (some ((0 : Int), false))) (fun r13 => (cond (decide ((r13.1.size : Int) < (a0.size : Int))) ((slN (w64 (0 - r13.2))).bind fun y14 => (cond (!decide (y14 = a0)) ((some ((0 : Int), false))) ((some ((w64 (0 - r13.2)), true))))) ((slN r13.2).bind fun y15 => (cond (!decide (y15 = a0)) ((some ((0 : Int), false))) ((some (r13.2, true))))))))))))
def slR3.res (_ : ByteArray) (y : Int × Bool) : AV := (.tup [(.v (.int .i64 y.1)), (.bl y.2)])
def slR3.out (_ : ByteArray) (_ : Int × Bool) : List (Option LB) := []
def slR3.S (ar : List AV) (h : List (Option LB)) (r : AV) (h1 : List (Option LB)) : Prop := ∃ a0 y, slR3 a0 = some y ∧ leL ar [(.v (.string a0))] ∧ leH h [] ∧ r = slR3.res a0 y ∧ h1 = slR3.out a0 y
theorem slR3.call {ar h a0 y} (H : slR3 a0 = some y) (h0 : leLk ar [(.v (.string a0))] (leHk h [])) : slR3.S ar h (slR3.res a0 y) (slR3.out a0 y) := ⟨a0, y, H, (ao h0).1, (ao h0).2, rfl, rfl⟩
theorem slR3.spec (a0 y) (H : slR3 a0 = some y) : Spec Tryz.prog 119 [(.v (.string a0))] [] (slR3.res a0 y) (slR3.out a0 y) := by
 refine si (G40_ok.at tok []) (ct := [(4, none), (11, some [0, 4, 5, 6, 33, 34, 35, 36, 37]), (14, some [0, 5, 50])]) Tryz.func119 rfl (by kernel_rfl) (by kernel_rfl) rfl ?_
 repeat' first
  | ((with_reducible refine eqg ?_); exact rfl)
  | ((with_reducible refine KOb.mk ?_); kernel_rfl)
  | ((with_reducible intro h); (repeat first | replace H := grd_k H | replace H := os1 H ‹_›); first | replace H := ct1 h H | replace H := cf1 h H | exact absurd h (by decide) | skip)
  | ((with_reducible refine Ob.mk ?_); first | (with_reducible rfl) | (first | ((repeat (first | (with_reducible exact grd_p H) | replace H := grd_k H | replace H := os1 H ‹_›)); done) | rfl | ((repeat (first | exact grd_p H | (have hp := grd_p H; exact hp) | replace H := grd_k H | replace H := os1 H ‹_› | (replace H := bind_some H; obtain ⟨_, _, H⟩ := H))); done) | (repeat (first | exact grd_p H | replace H := grd_k H | replace H := os1 H ‹_›))))
  | (with_reducible exact True.intro)
  | ((conv => whnf); first
      | (with_reducible refine And.intro ?_ ?_)
      | (with_reducible exact True.intro)
      | (with_reducible refine (?_ : Ob _))
      | ((with_reducible refine CallW.mk ?_); (repeat first | replace H := grd_k H | replace H := os1 H ‹_›); replace H := bind_some H; obtain ⟨y, hy, H⟩ := H; first | ((with_reducible have hz : slI _ _ _ = some y := hy); clear hz; refine ⟨_, _, slI.call hy ?_, rfl, rfl, ?_⟩) | ((with_reducible have hz : slN _ = some y := hy); clear hz; refine ⟨_, _, slN.call hy ?_, rfl, rfl, ?_⟩))
      | ((repeat first | replace H := grd_k H | replace H := os1 H ‹_›); refine li1 (G40_ok.at tok []) (ct := [(4, none), (11, some [0, 4, 5, 6, 33, 34, 35, 36, 37]), (14, some [0, 5, 50])]) (F := (fun s1 : ByteArray × Int × Int => ⟨sl [(0, (.v (.string a0))), (4, (.v (.string s1.1))), (5, (.v (.int .i64 s1.2.1))), (6, (.v (.int .i64 s1.2.2)))], []⟩)) (step := (fun s : ByteArray × Int × Int => slRl s.1 s.2.1 s.2.2)) _ H (by kernel_rfl) (sa ?_) ?_; rotate_left; (intro s1 r v hr H); rotate_right)
      | ((with_reducible refine cutAt (id := 4) ?_); (repeat first | replace H := grd_k H | replace H := os1 H ‹_›); first | (replace H := bind_some H; obtain ⟨z, hz, H⟩ := H; refine CutC.mk (id := 4) ⟨sl [(0, (.v (.string a0))), (4, (.v (.string z)))], []⟩ ?_ ?_; (replace H := hz)))
      | ((repeat first | replace H := grd_k H | replace H := os1 H ‹_›); have H := Option.some.inj H; subst H; with_reducible refine sa ?_)
      | ((repeat first | replace H := grd_k H | replace H := os1 H ‹_›); refine as1 H (by assumption) (sa ?_))
      | ((with_reducible refine fm ?_); (repeat first | replace H := grd_k H | replace H := os1 H ‹_›); have H := Option.some.inj H; subst H))
  | constructor
def G41 : Env := G40.add 119 [] slR3.S
theorem G41_ok : EnvOk Tryz.prog G41 := G40_ok.add ent_119 fun ar h r h1 ⟨a0, y, hy, e1, e2, e3, e4⟩ => by
 subst e3 e4; exact (slR3.spec a0 y hy).le e1 e2
attribute [local irreducible] slR3

noncomputable def sPI (a0 : ByteArray) : Option (Int × Bool) :=
 ((slR3 a0).bind fun y1 => (some (y1.1, y1.2)))
def sPI.res (_ : ByteArray) (y : Int × Bool) : AV := (.tup [(.v (.int .i64 y.1)), (.bl y.2)])
def sPI.out (_ : ByteArray) (_ : Int × Bool) : List (Option LB) := []
def sPI.S (ar : List AV) (h : List (Option LB)) (r : AV) (h1 : List (Option LB)) : Prop := ∃ a0 y, sPI a0 = some y ∧ leL ar [(.v (.string a0))] ∧ leH h [] ∧ r = sPI.res a0 y ∧ h1 = sPI.out a0 y
theorem sPI.call {ar h a0 y} (H : sPI a0 = some y) (h0 : leLk ar [(.v (.string a0))] (leHk h [])) : sPI.S ar h (sPI.res a0 y) (sPI.out a0 y) := ⟨a0, y, H, (ao h0).1, (ao h0).2, rfl, rfl⟩
theorem sPI.spec (a0 y) (H : sPI a0 = some y) : Spec Tryz.prog 80 [(.v (.string a0))] [] (sPI.res a0 y) (sPI.out a0 y) := by
 refine si (G41_ok.at tok []) (ct := []) Tryz.func80 rfl (by kernel_rfl) (by kernel_rfl) rfl ?_
 repeat' first
  | ((with_reducible refine eqg ?_); exact rfl)
  | ((with_reducible refine KOb.mk ?_); kernel_rfl)
  | ((with_reducible intro h); (repeat first | replace H := grd_k H | replace H := os1 H ‹_›); first | replace H := ct1 h H | replace H := cf1 h H | exact absurd h (by decide) | skip)
  | ((with_reducible refine Ob.mk ?_); first | (with_reducible rfl) | (first | ((repeat (first | (with_reducible exact grd_p H) | replace H := grd_k H | replace H := os1 H ‹_›)); done) | rfl | ((repeat (first | exact grd_p H | (have hp := grd_p H; exact hp) | replace H := grd_k H | replace H := os1 H ‹_› | (replace H := bind_some H; obtain ⟨_, _, H⟩ := H))); done) | (repeat (first | exact grd_p H | replace H := grd_k H | replace H := os1 H ‹_›))))
  | (with_reducible exact True.intro)
  | ((conv => whnf); first
      | (with_reducible refine And.intro ?_ ?_)
      | (with_reducible exact True.intro)
      | (with_reducible refine (?_ : Ob _))
      | ((with_reducible refine CallW.mk ?_); (repeat first | replace H := grd_k H | replace H := os1 H ‹_›); replace H := bind_some H; obtain ⟨y, hy, H⟩ := H; first | ((with_reducible have hz : slR3 _ = some y := hy); clear hz; refine ⟨_, _, slR3.call hy ?_, rfl, rfl, ?_⟩))
      | ((with_reducible refine fm ?_); (repeat first | replace H := grd_k H | replace H := os1 H ‹_›); have H := Option.some.inj H; subst H))
  | constructor
def G42 : Env := G41.add 80 [] sPI.S
theorem G42_ok : EnvOk Tryz.prog G42 := G41_ok.add ent_80 fun ar h r h1 ⟨a0, y, hy, e1, e2, e3, e4⟩ => by
 subst e3 e4; exact (sPI.spec a0 y hy).le e1 e2
attribute [local irreducible] sPI

end Go.Proofs.YtaobinhdnklojaaGreatDoor
namespace Go.Proofs.YtaobinhdnklojaaGreatDoor
open Go.RowKit
set_option maxHeartbeats 100000000
set_option maxRecDepth 100000
attribute [local irreducible] Ob l5 Sub Spec Fin Again CallW CutC KOb iter

attribute [local irreducible] slO3 slG slS slN slNf slG2 slL2 slL slG1 slF slM slW sPI

noncomputable def sCA1 (a0 : R1) (a1 : Int) : Option (Int × Bool) :=
 ((slG (a0.1, a0.2.1, a0.2.2.1, a0.2.2.2.1, a0.2.2.2.2.1, ())).bind fun y1 => (cond (!y1) ((some ((0 : Int), false))) (cond (decide (a1 < (1 : Int))) ((some ((0 : Int), false))) ((slF (a0.1, a0.2.1, a0.2.2.1, a0.2.2.2.1, a0.2.2.2.2.1, ()) a1).bind fun y2 => (cond (decide (y2 < (0 : Int))) ((some ((0 : Int), false))) ((slF (a0.1, a0.2.1, a0.2.2.1, a0.2.2.2.1, a0.2.2.2.2.1, ()) a1).bind fun y3 => (some (y3, true))))))))
def sCA1.res (_ : R1) (_ : Int) (y : Int × Bool) : AV := (.tup [(.v (.int .i64 y.1)), (.bl y.2)])
def sCA1.out (_ : R1) (_ : Int) (_ : Int × Bool) : List (Option LB) := []
def sCA1.S (ar : List AV) (h : List (Option LB)) (r : AV) (h1 : List (Option LB)) : Prop := ∃ a0 a1 y, sCA1 a0 a1 = some y ∧ leL ar [(.agg [(.v (.int .i64 a0.1)), (.tree tS a0.2.1), (.v (.int .i64 a0.2.2.1)), (.v (.int .i64 a0.2.2.2.1)), (.v (.int .i64 a0.2.2.2.2.1))]), (.v (.int .i64 a1))] ∧ leH h [] ∧ r = sCA1.res a0 a1 y ∧ h1 = sCA1.out a0 a1 y
theorem sCA1.call {ar h a0 a1 y} (H : sCA1 a0 a1 = some y) (h0 : leLk ar [(.agg [(.v (.int .i64 a0.1)), (.tree tS a0.2.1), (.v (.int .i64 a0.2.2.1)), (.v (.int .i64 a0.2.2.2.1)), (.v (.int .i64 a0.2.2.2.2.1))]), (.v (.int .i64 a1))] (leHk h [])) : sCA1.S ar h (sCA1.res a0 a1 y) (sCA1.out a0 a1 y) := ⟨a0, a1, y, H, (ao h0).1, (ao h0).2, rfl, rfl⟩
theorem sCA1.spec (a0 a1 y) (H : sCA1 a0 a1 = some y) : Spec Tryz.prog 120 [(.agg [(.v (.int .i64 a0.1)), (.tree tS a0.2.1), (.v (.int .i64 a0.2.2.1)), (.v (.int .i64 a0.2.2.2.1)), (.v (.int .i64 a0.2.2.2.2.1))]), (.v (.int .i64 a1))] [] (sCA1.res a0 a1 y) (sCA1.out a0 a1 y) := by
 refine si (G42_ok.at tok []) (ct := [(2, some [1, 2, 18])]) Tryz.func120 rfl (by kernel_rfl) (by kernel_rfl) rfl ?_
 repeat' first
  | ((with_reducible refine eqg ?_); exact rfl)
  | ((with_reducible refine KOb.mk ?_); kernel_rfl)
  | ((with_reducible intro h); (repeat first | replace H := grd_k H | replace H := os1 H ‹_›); first | replace H := ct1 h H | replace H := cf1 h H | exact absurd h (by decide) | skip)
  | ((with_reducible refine Ob.mk ?_); first | (with_reducible rfl) | (first | ((repeat (first | (with_reducible exact grd_p H) | replace H := grd_k H | replace H := os1 H ‹_›)); done) | rfl | ((repeat (first | exact grd_p H | (have hp := grd_p H; exact hp) | replace H := grd_k H | replace H := os1 H ‹_› | (replace H := bind_some H; obtain ⟨_, _, H⟩ := H))); done) | (repeat (first | exact grd_p H | replace H := grd_k H | replace H := os1 H ‹_›))))
  | (with_reducible exact True.intro)
  | ((conv => whnf); first
      | (with_reducible refine And.intro ?_ ?_)
      | (with_reducible exact True.intro)
      | (with_reducible refine (?_ : Ob _))
      | ((with_reducible refine CallW.mk ?_); (repeat first | replace H := grd_k H | replace H := os1 H ‹_›); replace H := bind_some H; obtain ⟨y, hy, H⟩ := H; first | ((with_reducible have hz : slG _ = some y := hy); clear hz; refine ⟨_, _, slG.call hy ?_, rfl, rfl, ?_⟩) | ((with_reducible have hz : slF _ _ = some y := hy); clear hz; refine ⟨_, _, slF.call hy ?_, rfl, rfl, ?_⟩))
      | ((with_reducible refine fm ?_); (repeat first | replace H := grd_k H | replace H := os1 H ‹_›); have H := Option.some.inj H; subst H))
  | constructor
def G43 : Env := G42.add 120 [] sCA1.S
theorem G43_ok : EnvOk Tryz.prog G43 := G42_ok.add ent_120 fun ar h r h1 ⟨a0, a1, y, hy, e1, e2, e3, e4⟩ => by
 subst e3 e4; exact (sCA1.spec a0 a1 y hy).le e1 e2
attribute [local irreducible] sCA1

noncomputable def sTT (a0 : R1) (a1 : Int) (a2 : Bool) : Option (Int × Bool) :=
 ((sCA1 (a0.1, a0.2.1, a0.2.2.1, a0.2.2.2.1, a0.2.2.2.2.1, ()) a1).bind fun y1 => (cond (!y1.2) ((some ((0 : Int), false))) (cond a2 (grd ((2 : Int) ≠ 0) (grd ((a0.2.1.length : Int) ≠ 0) ((some ((Int.tmod (w64 ((w64 ((w64 (Int.tdiv (a0.2.1.length : Int) (2 : Int))) - y1.1)) + (a0.2.1.length : Int))) (a0.2.1.length : Int)), true))))) (grd ((a0.2.1.length : Int) ≠ 0) ((some ((Int.tmod (w64 ((w64 ((0 : Int) - y1.1)) + (a0.2.1.length : Int))) (a0.2.1.length : Int)), true)))))))
def sTT.res (_ : R1) (_ : Int) (_ : Bool) (y : Int × Bool) : AV := (.tup [(.v (.int .i64 y.1)), (.bl y.2)])
def sTT.out (_ : R1) (_ : Int) (_ : Bool) (_ : Int × Bool) : List (Option LB) := []
def sTT.S (ar : List AV) (h : List (Option LB)) (r : AV) (h1 : List (Option LB)) : Prop := ∃ a0 a1 a2 y, sTT a0 a1 a2 = some y ∧ leL ar [(.agg [(.v (.int .i64 a0.1)), (.tree tS a0.2.1), (.v (.int .i64 a0.2.2.1)), (.v (.int .i64 a0.2.2.2.1)), (.v (.int .i64 a0.2.2.2.2.1))]), (.v (.int .i64 a1)), (.bl a2)] ∧ leH h [] ∧ r = sTT.res a0 a1 a2 y ∧ h1 = sTT.out a0 a1 a2 y
theorem sTT.call {ar h a0 a1 a2 y} (H : sTT a0 a1 a2 = some y) (h0 : leLk ar [(.agg [(.v (.int .i64 a0.1)), (.tree tS a0.2.1), (.v (.int .i64 a0.2.2.1)), (.v (.int .i64 a0.2.2.2.1)), (.v (.int .i64 a0.2.2.2.2.1))]), (.v (.int .i64 a1)), (.bl a2)] (leHk h [])) : sTT.S ar h (sTT.res a0 a1 a2 y) (sTT.out a0 a1 a2 y) := ⟨a0, a1, a2, y, H, (ao h0).1, (ao h0).2, rfl, rfl⟩
theorem sTT.spec (a0 a1 a2 y) (H : sTT a0 a1 a2 = some y) : Spec Tryz.prog 121 [(.agg [(.v (.int .i64 a0.1)), (.tree tS a0.2.1), (.v (.int .i64 a0.2.2.1)), (.v (.int .i64 a0.2.2.2.1)), (.v (.int .i64 a0.2.2.2.2.1))]), (.v (.int .i64 a1)), (.bl a2)] [] (sTT.res a0 a1 a2 y) (sTT.out a0 a1 a2 y) := by
 refine si (G43_ok.at tok []) (ct := [(4, some [2, 3, 8])]) Tryz.func121 rfl (by kernel_rfl) (by kernel_rfl) rfl ?_
 repeat' first
  | ((with_reducible refine eqg ?_); exact rfl)
  | ((with_reducible refine KOb.mk ?_); kernel_rfl)
  | ((with_reducible intro h); (repeat first | replace H := grd_k H | replace H := os1 H ‹_›); first | replace H := ct1 h H | replace H := cf1 h H | exact absurd h (by decide) | skip)
  | ((with_reducible refine Ob.mk ?_); first | (with_reducible rfl) | (first | ((repeat (first | (with_reducible exact grd_p H) | replace H := grd_k H | replace H := os1 H ‹_›)); done) | rfl | ((repeat (first | exact grd_p H | (have hp := grd_p H; exact hp) | replace H := grd_k H | replace H := os1 H ‹_› | (replace H := bind_some H; obtain ⟨_, _, H⟩ := H))); done) | (repeat (first | exact grd_p H | replace H := grd_k H | replace H := os1 H ‹_›))))
  | (with_reducible exact True.intro)
  | ((conv => whnf); first
      | (with_reducible refine And.intro ?_ ?_)
      | (with_reducible exact True.intro)
      | (with_reducible refine (?_ : Ob _))
      | ((with_reducible refine CallW.mk ?_); (repeat first | replace H := grd_k H | replace H := os1 H ‹_›); replace H := bind_some H; obtain ⟨y, hy, H⟩ := H; first | ((with_reducible have hz : sCA1 _ _ = some y := hy); clear hz; refine ⟨_, _, sCA1.call hy ?_, rfl, rfl, ?_⟩))
      | ((with_reducible refine fm ?_); (repeat first | replace H := grd_k H | replace H := os1 H ‹_›); have H := Option.some.inj H; subst H))
  | constructor
def G44 : Env := G43.add 121 [] sTT.S
theorem G44_ok : EnvOk Tryz.prog G44 := G43_ok.add ent_121 fun ar h r h1 ⟨a0, a1, a2, y, hy, e1, e2, e3, e4⟩ => by
 subst e3 e4; exact (sTT.spec a0 a1 a2 y hy).le e1 e2
attribute [local irreducible] sTT

noncomputable def slO4 (a0 : C1) (a1 : ByteArray) (a2 : Int) : Option ((C1 × ByteArray × (List Slot)) ⊕ (C1 × ByteArray × (List Slot))) :=
 (cond (decide (a1 = (ByteArray.mk #[104, 97, 110, 103]))) ((slM ((a0.1.1, a0.1.2.1, a0.1.2.2.1, a0.1.2.2.2.1, a0.1.2.2.2.2.1, ()), (a0.2.1.1, a0.2.1.2.1, a0.2.1.2.2.1, ()), ()) (3 : Int) a2).bind (Sum.elim (fun y2 => (some (Sum.inl (((y2.1.1.1, y2.2.2, y2.1.1.2.2.1, y2.1.1.2.2.2.1, y2.1.1.2.2.2.2.1, ()), (y2.1.2.1.1, y2.1.2.1.2.1, y2.1.2.1.2.2.1, ()), ()), y2.2.1, y2.2.2)))) (fun y3 => (some (Sum.inr (((y3.1.1.1, y3.1.1.2.1, y3.1.1.2.2.1, y3.1.1.2.2.2.1, y3.1.1.2.2.2.2.1, ()), (y3.1.2.1.1, y3.1.2.1.2.1, y3.1.2.1.2.2.1, ()), ()), y3.2.1, y3.2.2)))))) (cond (decide (a1 = (ByteArray.mk #[100, 111, 111, 114]))) ((slM ((a0.1.1, a0.1.2.1, a0.1.2.2.1, a0.1.2.2.2.1, a0.1.2.2.2.2.1, ()), (a0.2.1.1, a0.2.1.2.1, a0.2.1.2.2.1, ()), ()) (7 : Int) a2).bind (Sum.elim (fun y5 => (some (Sum.inl (((y5.1.1.1, y5.2.2, y5.1.1.2.2.1, y5.1.1.2.2.2.1, y5.1.1.2.2.2.2.1, ()), (y5.1.2.1.1, y5.1.2.1.2.1, y5.1.2.1.2.2.1, ()), ()), y5.2.1, y5.2.2)))) (fun y6 => (some (Sum.inr (((y6.1.1.1, y6.1.1.2.1, y6.1.1.2.2.1, y6.1.1.2.2.2.1, y6.1.1.2.2.2.2.1, ()), (y6.1.2.1.1, y6.1.2.1.2.1, y6.1.2.1.2.2.1, ()), ()), y6.2.1, y6.2.2)))))) (cond (decide (a1 = (ByteArray.mk #[98, 111, 97, 114, 100]))) ((slM ((a0.1.1, a0.1.2.1, a0.1.2.2.1, a0.1.2.2.2.1, a0.1.2.2.2.2.1, ()), (a0.2.1.1, a0.2.1.2.1, a0.2.1.2.2.1, ()), ()) (5 : Int) a2).bind (Sum.elim (fun y8 => (some (Sum.inl (((y8.1.1.1, y8.2.2, y8.1.1.2.2.1, y8.1.1.2.2.2.1, y8.1.1.2.2.2.2.1, ()), (y8.1.2.1.1, y8.1.2.1.2.1, y8.1.2.1.2.2.1, ()), ()), y8.2.1, y8.2.2)))) (fun y9 => (some (Sum.inr (((y9.1.1.1, y9.1.1.2.1, y9.1.1.2.2.1, y9.1.1.2.2.2.1, y9.1.1.2.2.2.2.1, ()), (y9.1.2.1.1, y9.1.2.1.2.1, y9.1.2.1.2.2.1, ()), ()), y9.2.1, y9.2.2)))))) (cond (decide (a1 = (ByteArray.mk #[108, 101, 97, 118, 101]))) ((slM ((a0.1.1, a0.1.2.1, a0.1.2.2.1, a0.1.2.2.2.1, a0.1.2.2.2.2.1, ()), (a0.2.1.1, a0.2.1.2.1, a0.2.1.2.2.1, ()), ()) (6 : Int) a2).bind (Sum.elim (fun y11 => (some (Sum.inl (((y11.1.1.1, y11.2.2, y11.1.1.2.2.1, y11.1.1.2.2.2.1, y11.1.1.2.2.2.2.1, ()), (y11.1.2.1.1, y11.1.2.1.2.1, y11.1.2.1.2.2.1, ()), ()), y11.2.1, y11.2.2)))) (fun y12 => (some (Sum.inr (((y12.1.1.1, y12.1.1.2.1, y12.1.1.2.2.1, y12.1.1.2.2.2.1, y12.1.1.2.2.2.2.1, ()), (y12.1.2.1.1, y12.1.2.1.2.1, y12.1.2.1.2.2.1, ()), ()), y12.2.1, y12.2.2)))))) (cond (decide (a1 = (ByteArray.mk #[99, 97, 98, 105, 110]))) ((sCA1 (a0.1.1, a0.1.2.1, a0.1.2.2.1, a0.1.2.2.2.1, a0.1.2.2.2.2.1, ()) a2).bind fun y13 => (cond (!y13.2) ((some (Sum.inl (((a0.1.1, a0.1.2.1, a0.1.2.2.1, a0.1.2.2.2.1, a0.1.2.2.2.2.1, ()), (a0.2.1.1, a0.2.1.2.1, a0.2.1.2.2.1, ()), ()), (ByteArray.mk #[63]), a0.1.2.1)))) ((slN y13.1).bind fun y14 => (some (Sum.inl (((a0.1.1, a0.1.2.1, a0.1.2.2.1, a0.1.2.2.2.1, a0.1.2.2.2.2.1, ()), (a0.2.1.1, a0.2.1.2.1, a0.2.1.2.2.1, ()), ()), y14, a0.1.2.1)))))) (cond (decide (a1 = (ByteArray.mk #[117, 112]))) ((sTT (a0.1.1, a0.1.2.1, a0.1.2.2.1, a0.1.2.2.2.1, a0.1.2.2.2.2.1, ()) a2 true).bind fun y15 => (cond (!y15.2) ((some (Sum.inl (((a0.1.1, a0.1.2.1, a0.1.2.2.1, a0.1.2.2.2.1, a0.1.2.2.2.2.1, ()), (a0.2.1.1, a0.2.1.2.1, a0.2.1.2.2.1, ()), ()), (ByteArray.mk #[63]), a0.1.2.1)))) ((slN y15.1).bind fun y16 => (some (Sum.inl (((a0.1.1, a0.1.2.1, a0.1.2.2.1, a0.1.2.2.2.1, a0.1.2.2.2.2.1, ()), (a0.2.1.1, a0.2.1.2.1, a0.2.1.2.2.1, ()), ()), y16, a0.1.2.1)))))) (cond (decide (a1 = (ByteArray.mk #[100, 111, 119, 110]))) ((sTT (a0.1.1, a0.1.2.1, a0.1.2.2.1, a0.1.2.2.2.1, a0.1.2.2.2.2.1, ()) a2 false).bind fun y17 => (cond (!y17.2) ((some (Sum.inl (((a0.1.1, a0.1.2.1, a0.1.2.2.1, a0.1.2.2.2.1, a0.1.2.2.2.2.1, ()), (a0.2.1.1, a0.2.1.2.1, a0.2.1.2.2.1, ()), ()), (ByteArray.mk #[63]), a0.1.2.1)))) ((slN y17.1).bind fun y18 => (some (Sum.inl (((a0.1.1, a0.1.2.1, a0.1.2.2.1, a0.1.2.2.2.1, a0.1.2.2.2.2.1, ()), (a0.2.1.1, a0.2.1.2.1, a0.2.1.2.2.1, ()), ()), y18, a0.1.2.1)))))) ((some (Sum.inl (((a0.1.1, a0.1.2.1, a0.1.2.2.1, a0.1.2.2.2.1, a0.1.2.2.2.2.1, ()), (a0.2.1.1, a0.2.1.2.1, a0.2.1.2.2.1, ()), ()), (ByteArray.mk #[63]), a0.1.2.1)))))))))))
def slO4.res (_ : C1) (_ : ByteArray) (_ : Int) (y : (C1 × ByteArray × (List Slot)) ⊕ (C1 × ByteArray × (List Slot))) : AV := match y with
 | (.inl y) => (.tup [(.agg [(.v (.int .i64 y.1.1.1)), (.own 0), (.v (.int .i64 y.1.1.2.2.1)), (.v (.int .i64 y.1.1.2.2.2.1)), (.v (.int .i64 y.1.1.2.2.2.2.1)), (.v (.string y.1.2.1.1)), (.v (.string y.1.2.1.2.1)), (.v (.int .i64 y.1.2.1.2.2.1))]), (.v (.string y.2.1))])
 | (.inr y) => (.tup [(.agg [(.v (.int .i64 y.1.1.1)), (.own 1), (.v (.int .i64 y.1.1.2.2.1)), (.v (.int .i64 y.1.1.2.2.2.1)), (.v (.int .i64 y.1.1.2.2.2.2.1)), (.v (.string y.1.2.1.1)), (.v (.string y.1.2.1.2.1)), (.v (.int .i64 y.1.2.1.2.2.1))]), (.v (.string y.2.1))])
def slO4.out (_ : C1) (_ : ByteArray) (_ : Int) (y : (C1 × ByteArray × (List Slot)) ⊕ (C1 × ByteArray × (List Slot))) : List (Option LB) := match y with
 | (.inl y) => [some (.arr 96 tS y.2.2)]
 | (.inr y) => [some (.arr 96 tS y.2.2), some (.arr 96 tS y.1.1.2.1)]
def slO4.S (ar : List AV) (h : List (Option LB)) (r : AV) (h1 : List (Option LB)) : Prop := ∃ a0 a1 a2 y, slO4 a0 a1 a2 = some y ∧ leL ar [(.agg [(.v (.int .i64 a0.1.1)), (.own 0), (.v (.int .i64 a0.1.2.2.1)), (.v (.int .i64 a0.1.2.2.2.1)), (.v (.int .i64 a0.1.2.2.2.2.1)), (.v (.string a0.2.1.1)), (.v (.string a0.2.1.2.1)), (.v (.int .i64 a0.2.1.2.2.1))]), (.v (.string a1)), (.v (.int .i64 a2))] ∧ leH h [some (.arr 96 tS a0.1.2.1)] ∧ r = slO4.res a0 a1 a2 y ∧ h1 = slO4.out a0 a1 a2 y
theorem slO4.call {ar h a0 a1 a2 y} (H : slO4 a0 a1 a2 = some y) (h0 : leLk ar [(.agg [(.v (.int .i64 a0.1.1)), (.own 0), (.v (.int .i64 a0.1.2.2.1)), (.v (.int .i64 a0.1.2.2.2.1)), (.v (.int .i64 a0.1.2.2.2.2.1)), (.v (.string a0.2.1.1)), (.v (.string a0.2.1.2.1)), (.v (.int .i64 a0.2.1.2.2.1))]), (.v (.string a1)), (.v (.int .i64 a2))] (leHk h [some (.arr 96 tS a0.1.2.1)])) : slO4.S ar h (slO4.res a0 a1 a2 y) (slO4.out a0 a1 a2 y) := ⟨a0, a1, a2, y, H, (ao h0).1, (ao h0).2, rfl, rfl⟩
theorem slO4.spec (a0 a1 a2 y) (H : slO4 a0 a1 a2 = some y) : Spec Tryz.prog 81 [(.agg [(.v (.int .i64 a0.1.1)), (.own 0), (.v (.int .i64 a0.1.2.2.1)), (.v (.int .i64 a0.1.2.2.2.1)), (.v (.int .i64 a0.1.2.2.2.2.1)), (.v (.string a0.2.1.1)), (.v (.string a0.2.1.2.1)), (.v (.int .i64 a0.2.1.2.2.1))]), (.v (.string a1)), (.v (.int .i64 a2))] [some (.arr 96 tS a0.1.2.1)] (slO4.res a0 a1 a2 y) (slO4.out a0 a1 a2 y) := by
 have hlen : Nat.ble ([some (.arr 96 tS a0.1.2.1)] : List (Option LB)).length (slO4.out a0 a1 a2 y).length = true := by
  rcases y with y | y <;> rfl
 refine si (G44_ok.at tok []) (ct := [(10, some [2, 3, 6, 8, 9, 10, 32]), (17, some [3, 6, 8, 9])]) Tryz.func81 rfl (by kernel_rfl) (by kernel_rfl) hlen ?_
 repeat' first
  | ((with_reducible refine eqg ?_); exact rfl)
  | ((with_reducible refine KOb.mk ?_); kernel_rfl)
  | ((with_reducible intro h); (repeat first | replace H := grd_k H | replace H := os1 H ‹_›); first | replace H := ct1 h H | replace H := cf1 h H | exact absurd h (by decide) | skip)
  | ((with_reducible refine Ob.mk ?_); first | (with_reducible rfl) | (first | ((repeat (first | (with_reducible exact grd_p H) | replace H := grd_k H | replace H := os1 H ‹_›)); done) | rfl | ((repeat (first | exact grd_p H | (have hp := grd_p H; exact hp) | replace H := grd_k H | replace H := os1 H ‹_› | (replace H := bind_some H; obtain ⟨_, _, H⟩ := H))); done) | (repeat (first | exact grd_p H | replace H := grd_k H | replace H := os1 H ‹_›))))
  | (with_reducible exact True.intro)
  | ((conv => whnf); first
      | (with_reducible refine And.intro ?_ ?_)
      | (with_reducible exact True.intro)
      | (with_reducible refine (?_ : Ob _))
      | ((with_reducible refine CallW.mk ?_); (repeat first | replace H := grd_k H | replace H := os1 H ‹_›); replace H := bind_some H; obtain ⟨y, hy, H⟩ := H; first | ((with_reducible have hz : slM _ _ _ = some y := hy); clear hz; rcases y with y | y <;> refine ⟨_, _, slM.call hy ?_, rfl, rfl, ?_⟩) | ((with_reducible have hz : sCA1 _ _ = some y := hy); clear hz; refine ⟨_, _, sCA1.call hy ?_, rfl, rfl, ?_⟩) | ((with_reducible have hz : slN _ = some y := hy); clear hz; refine ⟨_, _, slN.call hy ?_, rfl, rfl, ?_⟩) | ((with_reducible have hz : sTT _ _ _ = some y := hy); clear hz; refine ⟨_, _, sTT.call hy ?_, rfl, rfl, ?_⟩))
      | ((with_reducible refine fm ?_); (repeat first | replace H := grd_k H | replace H := os1 H ‹_›); have H := Option.some.inj H; subst H))
  | constructor
def G45 : Env := G44.add 81 [true] slO4.S
theorem G45_ok : EnvOk Tryz.prog G45 := G44_ok.add ent_81 fun ar h r h1 ⟨a0, a1, a2, y, hy, e1, e2, e3, e4⟩ => by
 subst e3 e4; exact (slO4.spec a0 a1 a2 y hy).le e1 e2
attribute [local irreducible] slO4

noncomputable def slR (a0 : C1) (a1 : ByteArray) : Option ((C1 × ByteArray × (List Slot)) ⊕ (C1 × ByteArray × (List Slot))) :=
 ((slS a1 (32 : Int)).bind fun y1 => (cond (decide ((y1.length : Int) = (1 : Int))) ((slW ((a0.1.1, a0.1.2.1, a0.1.2.2.1, a0.1.2.2.2.1, a0.1.2.2.2.2.1, ()), (a0.2.1.1, a0.2.1.2.1, a0.2.1.2.2.1, ()), ()) a1).bind (Sum.elim (fun y3 => (some (Sum.inl (((y3.1.1.1, y3.2.2, y3.1.1.2.2.1, y3.1.1.2.2.2.1, y3.1.1.2.2.2.2.1, ()), (y3.1.2.1.1, y3.1.2.1.2.1, y3.1.2.1.2.2.1, ()), ()), y3.2.1, y3.2.2)))) (fun y4 => (some (Sum.inr (((y4.1.1.1, y4.1.1.2.1, y4.1.1.2.2.1, y4.1.1.2.2.2.1, y4.1.1.2.2.2.2.1, ()), (y4.1.2.1.1, y4.1.2.1.2.1, y4.1.2.1.2.2.1, ()), ()), y4.2.1, y4.2.2)))))) (grd (0 ≤ (1 : Int) ∧ (1 : Int) < (y1.length : Int)) ((sPI (y1.getD ((1 : Int).toNat) (ByteArray.mk #[]))).bind fun y5 => (cond (!y5.2) ((some (Sum.inl (((a0.1.1, a0.1.2.1, a0.1.2.2.1, a0.1.2.2.2.1, a0.1.2.2.2.2.1, ()), (a0.2.1.1, a0.2.1.2.1, a0.2.1.2.2.1, ()), ()), (ByteArray.mk #[63]), a0.1.2.1)))) (cond (!decide ((y1.length : Int) = (2 : Int))) ((some (Sum.inl (((a0.1.1, a0.1.2.1, a0.1.2.2.1, a0.1.2.2.2.1, a0.1.2.2.2.2.1, ()), (a0.2.1.1, a0.2.1.2.1, a0.2.1.2.2.1, ()), ()), (ByteArray.mk #[63]), a0.1.2.1)))) (grd (0 ≤ (0 : Int) ∧ (0 : Int) < (y1.length : Int)) ((slO4 ((a0.1.1, a0.1.2.1, a0.1.2.2.1, a0.1.2.2.2.1, a0.1.2.2.2.2.1, ()), (a0.2.1.1, a0.2.1.2.1, a0.2.1.2.2.1, ()), ()) (y1.getD ((0 : Int).toNat) (ByteArray.mk #[])) y5.1).bind (Sum.elim (fun y7 => (some (Sum.inl (((y7.1.1.1, y7.2.2, y7.1.1.2.2.1, y7.1.1.2.2.2.1, y7.1.1.2.2.2.2.1, ()), (y7.1.2.1.1, y7.1.2.1.2.1, y7.1.2.1.2.2.1, ()), ()), y7.2.1, y7.2.2)))) (fun y8 => (some (Sum.inr (((y8.1.1.1, y8.1.1.2.1, y8.1.1.2.2.1, y8.1.1.2.2.2.1, y8.1.1.2.2.2.2.1, ()), (y8.1.2.1.1, y8.1.2.1.2.1, y8.1.2.1.2.2.1, ()), ()), y8.2.1, y8.2.2)))))))))))))
def slR.res (_ : C1) (_ : ByteArray) (y : (C1 × ByteArray × (List Slot)) ⊕ (C1 × ByteArray × (List Slot))) : AV := match y with
 | (.inl y) => (.tup [(.agg [(.v (.int .i64 y.1.1.1)), (.own 0), (.v (.int .i64 y.1.1.2.2.1)), (.v (.int .i64 y.1.1.2.2.2.1)), (.v (.int .i64 y.1.1.2.2.2.2.1)), (.v (.string y.1.2.1.1)), (.v (.string y.1.2.1.2.1)), (.v (.int .i64 y.1.2.1.2.2.1))]), (.v (.string y.2.1))])
 | (.inr y) => (.tup [(.agg [(.v (.int .i64 y.1.1.1)), (.own 1), (.v (.int .i64 y.1.1.2.2.1)), (.v (.int .i64 y.1.1.2.2.2.1)), (.v (.int .i64 y.1.1.2.2.2.2.1)), (.v (.string y.1.2.1.1)), (.v (.string y.1.2.1.2.1)), (.v (.int .i64 y.1.2.1.2.2.1))]), (.v (.string y.2.1))])
def slR.out (_ : C1) (_ : ByteArray) (y : (C1 × ByteArray × (List Slot)) ⊕ (C1 × ByteArray × (List Slot))) : List (Option LB) := match y with
 | (.inl y) => [some (.arr 96 tS y.2.2)]
 | (.inr y) => [some (.arr 96 tS y.2.2), some (.arr 96 tS y.1.1.2.1)]
def slR.S (ar : List AV) (h : List (Option LB)) (r : AV) (h1 : List (Option LB)) : Prop := ∃ a0 a1 y, slR a0 a1 = some y ∧ leL ar [(.agg [(.v (.int .i64 a0.1.1)), (.own 0), (.v (.int .i64 a0.1.2.2.1)), (.v (.int .i64 a0.1.2.2.2.1)), (.v (.int .i64 a0.1.2.2.2.2.1)), (.v (.string a0.2.1.1)), (.v (.string a0.2.1.2.1)), (.v (.int .i64 a0.2.1.2.2.1))]), (.v (.string a1))] ∧ leH h [some (.arr 96 tS a0.1.2.1)] ∧ r = slR.res a0 a1 y ∧ h1 = slR.out a0 a1 y
theorem slR.call {ar h a0 a1 y} (H : slR a0 a1 = some y) (h0 : leLk ar [(.agg [(.v (.int .i64 a0.1.1)), (.own 0), (.v (.int .i64 a0.1.2.2.1)), (.v (.int .i64 a0.1.2.2.2.1)), (.v (.int .i64 a0.1.2.2.2.2.1)), (.v (.string a0.2.1.1)), (.v (.string a0.2.1.2.1)), (.v (.int .i64 a0.2.1.2.2.1))]), (.v (.string a1))] (leHk h [some (.arr 96 tS a0.1.2.1)])) : slR.S ar h (slR.res a0 a1 y) (slR.out a0 a1 y) := ⟨a0, a1, y, H, (ao h0).1, (ao h0).2, rfl, rfl⟩
theorem slR.spec (a0 a1 y) (H : slR a0 a1 = some y) : Spec Tryz.prog 42 [(.agg [(.v (.int .i64 a0.1.1)), (.own 0), (.v (.int .i64 a0.1.2.2.1)), (.v (.int .i64 a0.1.2.2.2.1)), (.v (.int .i64 a0.1.2.2.2.2.1)), (.v (.string a0.2.1.1)), (.v (.string a0.2.1.2.1)), (.v (.int .i64 a0.2.1.2.2.1))]), (.v (.string a1))] [some (.arr 96 tS a0.1.2.1)] (slR.res a0 a1 y) (slR.out a0 a1 y) := by
 have hlen : Nat.ble ([some (.arr 96 tS a0.1.2.1)] : List (Option LB)).length (slR.out a0 a1 y).length = true := by
  rcases y with y | y <;> rfl
 refine si (G45_ok.at tok []) (ct := [(4, some [2, 4, 6, 29, 30, 31]), (6, some [2, 4, 6, 7, 32])]) Tryz.func42 rfl (by kernel_rfl) (by kernel_rfl) hlen ?_
 repeat' first
  | ((with_reducible refine eqg ?_); exact rfl)
  | ((with_reducible refine KOb.mk ?_); kernel_rfl)
  | ((with_reducible intro h); (repeat first | replace H := grd_k H | replace H := os1 H ‹_›); first | replace H := ct1 h H | replace H := cf1 h H | exact absurd h (by decide) | skip)
  | ((with_reducible refine Ob.mk ?_); first | (with_reducible rfl) | (first | ((repeat (first | (with_reducible exact grd_p H) | replace H := grd_k H | replace H := os1 H ‹_›)); done) | rfl | ((repeat (first | exact grd_p H | (have hp := grd_p H; exact hp) | replace H := grd_k H | replace H := os1 H ‹_› | (replace H := bind_some H; obtain ⟨_, _, H⟩ := H))); done) | (repeat (first | exact grd_p H | replace H := grd_k H | replace H := os1 H ‹_›))))
  | (with_reducible exact True.intro)
  | ((conv => whnf); first
      | (with_reducible refine And.intro ?_ ?_)
      | (with_reducible exact True.intro)
      | (with_reducible refine (?_ : Ob _))
      | ((with_reducible refine CallW.mk ?_); (repeat first | replace H := grd_k H | replace H := os1 H ‹_›); replace H := bind_some H; obtain ⟨y, hy, H⟩ := H; first | ((with_reducible have hz : slS _ _ = some y := hy); clear hz; refine ⟨_, _, slS.call hy ?_, rfl, rfl, ?_⟩) | ((with_reducible have hz : slW _ _ = some y := hy); clear hz; rcases y with y | y <;> refine ⟨_, _, slW.call hy ?_, rfl, rfl, ?_⟩) | ((with_reducible have hz : sPI _ = some y := hy); clear hz; refine ⟨_, _, sPI.call hy ?_, rfl, rfl, ?_⟩) | ((with_reducible have hz : slO4 _ _ _ = some y := hy); clear hz; rcases y with y | y <;> refine ⟨_, _, slO4.call hy ?_, rfl, rfl, ?_⟩))
      | ((with_reducible refine fm ?_); (repeat first | replace H := grd_k H | replace H := os1 H ‹_›); have H := Option.some.inj H; subst H))
  | constructor
def G46 : Env := G45.add 42 [true] slR.S
theorem G46_ok : EnvOk Tryz.prog G46 := G45_ok.add ent_42 fun ar h r h1 ⟨a0, a1, y, hy, e1, e2, e3, e4⟩ => by
 subst e3 e4; exact (slR.spec a0 a1 y hy).le e1 e2
attribute [local irreducible] slR

noncomputable def sAR (a0 : Log) (a1 : LR) : Option (Log × Int) :=
 ((slL (a0.1, a0.2.1, a0.2.2.1, ())).bind fun y1 => (cond (!y1) ((some ((a0.1, a0.2.1, a0.2.2.1, ()), (1 : Int)))) ((slG2 (a1.1, a1.2.1, ())).bind fun y2 => (cond (!y2) ((some ((a0.1, a0.2.1, a0.2.2.1, ()), (1 : Int)))) (cond (decide (a0.2.2.1 = (60 : Int))) ((some ((a0.1, a0.2.1, a0.2.2.1, ()), (2 : Int)))) ((slL2 a0.2.2.1 (a1.1, a1.2.1, ())).bind fun y3 => (grd (a0.2.1.size + y3.size ≤ 9223372036854775807) ((some ((a0.1, (a0.2.1 ++ y3), (w64 (a0.2.2.1 + (1 : Int))), ()), (0 : Int)))))))))))
def sAR.res (_ : Log) (_ : LR) (y : Log × Int) : AV := (.tup [(.agg [(.v (.string y.1.1)), (.v (.string y.1.2.1)), (.v (.int .i64 y.1.2.2.1))]), (.v (.int .i64 y.2))])
def sAR.out (_ : Log) (_ : LR) (_ : Log × Int) : List (Option LB) := []
def sAR.S (ar : List AV) (h : List (Option LB)) (r : AV) (h1 : List (Option LB)) : Prop := ∃ a0 a1 y, sAR a0 a1 = some y ∧ leL ar [(.agg [(.v (.string a0.1)), (.v (.string a0.2.1)), (.v (.int .i64 a0.2.2.1))]), (.agg [(.v (.string a1.1)), (.v (.string a1.2.1))])] ∧ leH h [] ∧ r = sAR.res a0 a1 y ∧ h1 = sAR.out a0 a1 y
theorem sAR.call {ar h a0 a1 y} (H : sAR a0 a1 = some y) (h0 : leLk ar [(.agg [(.v (.string a0.1)), (.v (.string a0.2.1)), (.v (.int .i64 a0.2.2.1))]), (.agg [(.v (.string a1.1)), (.v (.string a1.2.1))])] (leHk h [])) : sAR.S ar h (sAR.res a0 a1 y) (sAR.out a0 a1 y) := ⟨a0, a1, y, H, (ao h0).1, (ao h0).2, rfl, rfl⟩
theorem sAR.spec (a0 a1 y) (H : sAR a0 a1 = some y) : Spec Tryz.prog 43 [(.agg [(.v (.string a0.1)), (.v (.string a0.2.1)), (.v (.int .i64 a0.2.2.1))]), (.agg [(.v (.string a1.1)), (.v (.string a1.2.1))])] [] (sAR.res a0 a1 y) (sAR.out a0 a1 y) := by
 refine si (G46_ok.at tok []) (ct := [(3, some [2, 3, 4]), (7, some [2, 4])]) Tryz.func43 rfl (by kernel_rfl) (by kernel_rfl) rfl ?_
 repeat' first
  | ((with_reducible refine eqg ?_); exact rfl)
  | ((with_reducible refine KOb.mk ?_); kernel_rfl)
  | ((with_reducible intro h); (repeat first | replace H := grd_k H | replace H := os1 H ‹_›); first | replace H := ct1 h H | replace H := cf1 h H | exact absurd h (by decide) | skip)
  | ((with_reducible refine Ob.mk ?_); first | (with_reducible rfl) | (first | ((repeat (first | (with_reducible exact grd_p H) | replace H := grd_k H | replace H := os1 H ‹_›)); done) | rfl | ((repeat (first | exact grd_p H | (have hp := grd_p H; exact hp) | replace H := grd_k H | replace H := os1 H ‹_› | (replace H := bind_some H; obtain ⟨_, _, H⟩ := H))); done) | (repeat (first | exact grd_p H | replace H := grd_k H | replace H := os1 H ‹_›))))
  | (with_reducible exact True.intro)
  | ((conv => whnf); first
      | (with_reducible refine And.intro ?_ ?_)
      | (with_reducible exact True.intro)
      | (with_reducible refine (?_ : Ob _))
      | ((with_reducible refine CallW.mk ?_); (repeat first | replace H := grd_k H | replace H := os1 H ‹_›); replace H := bind_some H; obtain ⟨y, hy, H⟩ := H; first | ((with_reducible have hz : slL _ = some y := hy); clear hz; refine ⟨_, _, slL.call hy ?_, rfl, rfl, ?_⟩) | ((with_reducible have hz : slG2 _ = some y := hy); clear hz; refine ⟨_, _, slG2.call hy ?_, rfl, rfl, ?_⟩) | ((with_reducible have hz : slL2 _ _ = some y := hy); clear hz; refine ⟨_, _, slL2.call hy ?_, rfl, rfl, ?_⟩))
      | ((with_reducible refine fm ?_); (repeat first | replace H := grd_k H | replace H := os1 H ‹_›); have H := Option.some.inj H; subst H))
  | constructor
def G47 : Env := G46.add 43 [] sAR.S
theorem G47_ok : EnvOk Tryz.prog G47 := G46_ok.add ent_43 fun ar h r h1 ⟨a0, a1, y, hy, e1, e2, e3, e4⟩ => by
 subst e3 e4; exact (sAR.spec a0 a1 y hy).le e1 e2
attribute [local irreducible] sAR

noncomputable def sEC (a0 : C1) (a1 : ByteArray) : Option (C1 × ByteArray) :=
 ((slO3 ((a0.1.1, a0.1.2.1, a0.1.2.2.1, a0.1.2.2.2.1, a0.1.2.2.2.2.1, ()), (a0.2.1.1, a0.2.1.2.1, a0.2.1.2.2.1, ()), ())).bind fun y1 => ((slG1 ((a0.1.1, a0.1.2.1, a0.1.2.2.1, a0.1.2.2.2.1, a0.1.2.2.2.2.1, ()), (a0.2.1.1, a0.2.1.2.1, a0.2.1.2.2.1, ()), ())).bind fun y2 => (cond (!y2) ((some (((y1.1.1, y1.1.2.1, y1.1.2.2.1, y1.1.2.2.2.1, y1.1.2.2.2.2.1, ()), (y1.2.1.1, y1.2.1.2.1, y1.2.1.2.2.1, ()), ()), (ByteArray.mk #[110, 111])))) ((slG2 (a1, (ByteArray.mk #[]), ())).bind fun y3 => (cond (!y3) ((some (((y1.1.1, y1.1.2.1, y1.1.2.2.1, y1.1.2.2.2.1, y1.1.2.2.2.2.1, ()), (y1.2.1.1, y1.2.1.2.1, y1.2.1.2.2.1, ()), ()), (ByteArray.mk #[98, 97, 100])))) (cond (decide (a0.2.1.2.2.1 = (60 : Int))) ((some (((y1.1.1, y1.1.2.1, y1.1.2.2.1, y1.1.2.2.2.1, y1.1.2.2.2.2.1, ()), (y1.2.1.1, y1.2.1.2.1, y1.2.1.2.2.1, ()), ()), (ByteArray.mk #[102, 117, 108, 108])))) ((slR ((y1.1.1, y1.1.2.1, y1.1.2.2.1, y1.1.2.2.2.1, y1.1.2.2.2.2.1, ()), (y1.2.1.1, y1.2.1.2.1, y1.2.1.2.2.1, ()), ()) a1).bind (Sum.elim (fun y5 => ((slO3 ((y5.1.1.1, y5.2.2, y5.1.1.2.2.1, y5.1.1.2.2.2.1, y5.1.1.2.2.2.2.1, ()), (y5.1.2.1.1, y5.1.2.1.2.1, y5.1.2.1.2.2.1, ()), ())).bind fun y6 => ((cond (decide ((200 : Int) < (y5.2.1.size : Int))) ((some ((ByteArray.mk #[108, 111, 110, 103]), y6.1.1, y6.1.2.2.1, y6.1.2.2.2.1, y6.1.2.2.2.2.1, y6.2.1.1, y6.2.1.2.1, y6.2.1.2.2.1, y6.1.2.1))) ((some (y5.2.1, y6.1.1, y6.1.2.2.1, y6.1.2.2.2.1, y6.1.2.2.2.2.1, y6.2.1.1, y6.2.1.2.1, y6.2.1.2.2.1, y6.1.2.1)))).bind fun z7 => ((sAR (a0.2.1.1, a0.2.1.2.1, a0.2.1.2.2.1, ()) (a1, z7.1, ())).bind fun y8 => (some (((z7.2.1, z7.2.2.2.2.2.2.2.2, z7.2.2.1, z7.2.2.2.1, z7.2.2.2.2.1, ()), (y8.1.1, y8.1.2.1, y8.1.2.2.1, ()), ()), z7.1)))))) (fun y9 => ((slO3 ((y9.1.1.1, y9.1.1.2.1, y9.1.1.2.2.1, y9.1.1.2.2.2.1, y9.1.1.2.2.2.2.1, ()), (y9.1.2.1.1, y9.1.2.1.2.1, y9.1.2.1.2.2.1, ()), ())).bind fun y10 => ((cond (decide ((200 : Int) < (y9.2.1.size : Int))) ((some ((ByteArray.mk #[108, 111, 110, 103]), y10.1.1, y10.1.2.2.1, y10.1.2.2.2.1, y10.1.2.2.2.2.1, y10.2.1.1, y10.2.1.2.1, y10.2.1.2.2.1, y10.1.2.1))) ((some (y9.2.1, y10.1.1, y10.1.2.2.1, y10.1.2.2.2.1, y10.1.2.2.2.2.1, y10.2.1.1, y10.2.1.2.1, y10.2.1.2.2.1, y10.1.2.1)))).bind fun z11 => ((sAR (a0.2.1.1, a0.2.1.2.1, a0.2.1.2.2.1, ()) (a1, z11.1, ())).bind fun y12 => (some (((z11.2.1, z11.2.2.2.2.2.2.2.2, z11.2.2.1, z11.2.2.2.1, z11.2.2.2.2.1, ()), (y12.1.1, y12.1.2.1, y12.1.2.2.1, ()), ()), z11.1))))))))))))))
def sEC.res (_ : C1) (_ : ByteArray) (y : C1 × ByteArray) : AV := (.tup [(.agg [(.v (.int .i64 y.1.1.1)), (.own 0), (.v (.int .i64 y.1.1.2.2.1)), (.v (.int .i64 y.1.1.2.2.2.1)), (.v (.int .i64 y.1.1.2.2.2.2.1)), (.v (.string y.1.2.1.1)), (.v (.string y.1.2.1.2.1)), (.v (.int .i64 y.1.2.1.2.2.1))]), (.v (.string y.2))])
def sEC.out (_ : C1) (_ : ByteArray) (y : C1 × ByteArray) : List (Option LB) := [some (.arr 96 tS y.1.1.2.1)]
def sEC.S (ar : List AV) (h : List (Option LB)) (r : AV) (h1 : List (Option LB)) : Prop := ∃ a0 a1 y, sEC a0 a1 = some y ∧ leL ar [(.agg [(.v (.int .i64 a0.1.1)), (.tree tS a0.1.2.1), (.v (.int .i64 a0.1.2.2.1)), (.v (.int .i64 a0.1.2.2.2.1)), (.v (.int .i64 a0.1.2.2.2.2.1)), (.v (.string a0.2.1.1)), (.v (.string a0.2.1.2.1)), (.v (.int .i64 a0.2.1.2.2.1))]), (.v (.string a1))] ∧ leH h [] ∧ r = sEC.res a0 a1 y ∧ h1 = sEC.out a0 a1 y
theorem sEC.call {ar h a0 a1 y} (H : sEC a0 a1 = some y) (h0 : leLk ar [(.agg [(.v (.int .i64 a0.1.1)), (.tree tS a0.1.2.1), (.v (.int .i64 a0.1.2.2.1)), (.v (.int .i64 a0.1.2.2.2.1)), (.v (.int .i64 a0.1.2.2.2.2.1)), (.v (.string a0.2.1.1)), (.v (.string a0.2.1.2.1)), (.v (.int .i64 a0.2.1.2.2.1))]), (.v (.string a1))] (leHk h [])) : sEC.S ar h (sEC.res a0 a1 y) (sEC.out a0 a1 y) := ⟨a0, a1, y, H, (ao h0).1, (ao h0).2, rfl, rfl⟩
theorem sEC.spec (a0 a1 y) (H : sEC a0 a1 = some y) : Spec Tryz.prog 13 [(.agg [(.v (.int .i64 a0.1.1)), (.tree tS a0.1.2.1), (.v (.int .i64 a0.1.2.2.1)), (.v (.int .i64 a0.1.2.2.2.1)), (.v (.int .i64 a0.1.2.2.2.2.1)), (.v (.string a0.2.1.1)), (.v (.string a0.2.1.2.1)), (.v (.int .i64 a0.2.1.2.2.1))]), (.v (.string a1))] [] (sEC.res a0 a1 y) (sEC.out a0 a1 y) := by
 refine si (G47_ok.at tok []) (ct := [(12, none), (5, some [1, 2, 4, 6, 16]), (9, some [1, 2, 4, 6, 7, 8])]) Tryz.func13 rfl (by kernel_rfl) (by kernel_rfl) rfl ?_
 repeat' first
  | ((with_reducible refine eqg ?_); exact rfl)
  | ((with_reducible refine KOb.mk ?_); kernel_rfl)
  | ((with_reducible intro h); (repeat first | replace H := grd_k H | replace H := os1 H ‹_›); first | replace H := ct1 h H | replace H := cf1 h H | exact absurd h (by decide) | skip)
  | ((with_reducible refine Ob.mk ?_); first | (with_reducible rfl) | (first | ((repeat (first | (with_reducible exact grd_p H) | replace H := grd_k H | replace H := os1 H ‹_›)); done) | rfl | ((repeat (first | exact grd_p H | (have hp := grd_p H; exact hp) | replace H := grd_k H | replace H := os1 H ‹_› | (replace H := bind_some H; obtain ⟨_, _, H⟩ := H))); done) | (repeat (first | exact grd_p H | replace H := grd_k H | replace H := os1 H ‹_›))))
  | (with_reducible exact True.intro)
  | ((conv => whnf); first
      | (with_reducible refine And.intro ?_ ?_)
      | (with_reducible exact True.intro)
      | (with_reducible refine (?_ : Ob _))
      | ((with_reducible refine CallW.mk ?_); (repeat first | replace H := grd_k H | replace H := os1 H ‹_›); replace H := bind_some H; obtain ⟨y, hy, H⟩ := H; first | ((with_reducible have hz : slO3 _ = some y := hy); clear hz; refine ⟨_, _, slO3.call hy ?_, rfl, rfl, ?_⟩) | ((with_reducible have hz : slG1 _ = some y := hy); clear hz; refine ⟨_, _, slG1.call hy ?_, rfl, rfl, ?_⟩) | ((with_reducible have hz : slG2 _ = some y := hy); clear hz; refine ⟨_, _, slG2.call hy ?_, rfl, rfl, ?_⟩) | ((with_reducible have hz : slR _ _ = some y := hy); clear hz; rcases y with y | y <;> refine ⟨_, _, slR.call hy ?_, rfl, rfl, ?_⟩) | ((with_reducible have hz : sAR _ _ = some y := hy); clear hz; refine ⟨_, _, sAR.call hy ?_, rfl, rfl, ?_⟩))
      | ((with_reducible refine cutAt (id := 12) ?_); (repeat first | replace H := grd_k H | replace H := os1 H ‹_›); first | (replace H := bind_some H; obtain ⟨z, hz, H⟩ := H; refine CutC.mk (id := 12) ⟨sl [(1, (.v (.string a1))), (2, (.loc 0 0 0)), (4, (.loc 1 0 0)), (6, (.loc 2 0 0)), (8, (.v (.string z.1)))], [some (.box 40 [(.v (.int .i64 a0.1.1)), (.tree tS a0.1.2.1), (.v (.int .i64 a0.1.2.2.1)), (.v (.int .i64 a0.1.2.2.2.1)), (.v (.int .i64 a0.1.2.2.2.2.1)), (.v (.string a0.2.1.1)), (.v (.string a0.2.1.2.1)), (.v (.int .i64 a0.2.1.2.2.1))]), some (.box 40 [(.v (.int .i64 (0 : Int))), (.v (.slice none 0 0)), (.v (.int .i64 (0 : Int))), (.v (.int .i64 (0 : Int))), (.v (.int .i64 (0 : Int))), (.v (.string (ByteArray.mk #[]))), (.v (.string (ByteArray.mk #[]))), (.v (.int .i64 (0 : Int)))]), some (.box 40 [(.v (.int .i64 z.2.1)), (.own 3), (.v (.int .i64 z.2.2.1)), (.v (.int .i64 z.2.2.2.1)), (.v (.int .i64 z.2.2.2.2.1)), (.v (.string z.2.2.2.2.2.1)), (.v (.string z.2.2.2.2.2.2.1)), (.v (.int .i64 z.2.2.2.2.2.2.2.1))]), some (.arr 96 tS z.2.2.2.2.2.2.2.2)]⟩ ?_ ?_; (replace H := hz)))
      | ((repeat first | replace H := grd_k H | replace H := os1 H ‹_›); have H := Option.some.inj H; subst H; with_reducible refine sa ?_)
      | ((with_reducible refine fm ?_); (repeat first | replace H := grd_k H | replace H := os1 H ‹_›); have H := Option.some.inj H; subst H))
  | constructor
def G48 : Env := G47.add 13 [] sEC.S
theorem G48_ok : EnvOk Tryz.prog G48 := G47_ok.add ent_13 fun ar h r h1 ⟨a0, a1, y, hy, e1, e2, e3, e4⟩ => by
 subst e3 e4; exact (sEC.spec a0 a1 y hy).le e1 e2
attribute [local irreducible] sEC

end Go.Proofs.YtaobinhdnklojaaGreatDoor
namespace Go.Proofs.YtaobinhdnklojaaGreatDoor
open Go.RowKit
set_option maxHeartbeats 100000000
set_option maxRecDepth 100000
attribute [local irreducible] Ob l5 Sub Spec Fin Again CallW CutC KOb iter

attribute [local irreducible] slNf

noncomputable def sCiS4 (a0 : (List Slot)) : Option ((List Slot) × (List Slot)) :=
 (grd (([] : List Slot).length + a0.length ≤ 140737488355328 / 24 ∧ ([] : List Slot).length + a0.length ≤ 140737488355328) ((some ((([] : List Slot) ++ a0), a0))))
attribute [local irreducible] sCiS4

noncomputable def icR (a0 : R1) : Option (R1 × (List Slot)) :=
 ((sCiS4 a0.2.1).bind fun y1 => (some ((a0.1, y1.1, a0.2.2.1, a0.2.2.2.1, a0.2.2.2.2.1, ()), y1.2)))
attribute [local irreducible] icR

noncomputable def iw (a0 : Int) (a1 : Int) (a2 : Int) : Option (Bool) :=
 (cond (decide (a1 ≤ a0)) ((some (decide (a0 ≤ a2)))) ((some false)))
def iw.res (_ : Int) (_ : Int) (_ : Int) (y : Bool) : AV := (.bl y)
def iw.out (_ : Int) (_ : Int) (_ : Int) (_ : Bool) : List (Option LB) := []
def iw.S (ar : List AV) (h : List (Option LB)) (r : AV) (h1 : List (Option LB)) : Prop := ∃ a0 a1 a2 y, iw a0 a1 a2 = some y ∧ leL ar [(.v (.int .i64 a0)), (.v (.int .i64 a1)), (.v (.int .i64 a2))] ∧ leH h [] ∧ r = iw.res a0 a1 a2 y ∧ h1 = iw.out a0 a1 a2 y
theorem iw.call {ar h a0 a1 a2 y} (H : iw a0 a1 a2 = some y) (h0 : leLk ar [(.v (.int .i64 a0)), (.v (.int .i64 a1)), (.v (.int .i64 a2))] (leHk h [])) : iw.S ar h (iw.res a0 a1 a2 y) (iw.out a0 a1 a2 y) := ⟨a0, a1, a2, y, H, (ao h0).1, (ao h0).2, rfl, rfl⟩
theorem iw.spec (a0 a1 a2 y) (H : iw a0 a1 a2 = some y) : Spec Tryz.prog 70 [(.v (.int .i64 a0)), (.v (.int .i64 a1)), (.v (.int .i64 a2))] [] (iw.res a0 a1 a2 y) (iw.out a0 a1 a2 y) := by
 refine si (G48_ok.at tok []) (ct := []) Tryz.func70 rfl (by kernel_rfl) (by kernel_rfl) rfl ?_
 repeat' first
  | ((with_reducible refine eqg ?_); exact rfl)
  | ((with_reducible refine KOb.mk ?_); kernel_rfl)
  | ((with_reducible intro h); (repeat first | replace H := grd_k H | replace H := os1 H ‹_›); first | replace H := ct1 h H | replace H := cf1 h H | exact absurd h (by decide) | skip)
  | ((with_reducible refine Ob.mk ?_); first | (with_reducible rfl) | (first | ((repeat (first | (with_reducible exact grd_p H) | replace H := grd_k H | replace H := os1 H ‹_›)); done) | rfl | ((repeat (first | exact grd_p H | (have hp := grd_p H; exact hp) | replace H := grd_k H | replace H := os1 H ‹_› | (replace H := bind_some H; obtain ⟨_, _, H⟩ := H))); done) | (repeat (first | exact grd_p H | replace H := grd_k H | replace H := os1 H ‹_›))))
  | (with_reducible exact True.intro)
  | ((conv => whnf); first
      | (with_reducible refine And.intro ?_ ?_)
      | (with_reducible exact True.intro)
      | (with_reducible refine (?_ : Ob _))
      | ((with_reducible refine fm ?_); (repeat first | replace H := grd_k H | replace H := os1 H ‹_›); have H := Option.some.inj H; subst H))
  | constructor
def G51 : Env := G48.add 70 [] iw.S
theorem G51_ok : EnvOk Tryz.prog G51 := G48_ok.add ent_70 fun ar h r h1 ⟨a0, a1, a2, y, hy, e1, e2, e3, e4⟩ => by
 subst e3 e4; exact (iw.spec a0 a1 a2 y hy).le e1 e2
attribute [local irreducible] iw

noncomputable def iRiS (a0 : R1) (a1 : Int) : Option (Bool) :=
 (cond (decide (a1 = (0 : Int))) ((some true)) (grd ((2 : Int) ≠ 0) ((some (decide (a1 = (w64 (Int.tdiv (a0.2.1.length : Int) (2 : Int)))))))))
def iRiS.res (_ : R1) (_ : Int) (y : Bool) : AV := (.bl y)
def iRiS.out (_ : R1) (_ : Int) (_ : Bool) : List (Option LB) := []
def iRiS.S (ar : List AV) (h : List (Option LB)) (r : AV) (h1 : List (Option LB)) : Prop := ∃ a0 a1 y, iRiS a0 a1 = some y ∧ leL ar [(.agg [(.v (.int .i64 a0.1)), (.tree tS a0.2.1), (.v (.int .i64 a0.2.2.1)), (.v (.int .i64 a0.2.2.2.1)), (.v (.int .i64 a0.2.2.2.2.1))]), (.v (.int .i64 a1))] ∧ leH h [] ∧ r = iRiS.res a0 a1 y ∧ h1 = iRiS.out a0 a1 y
theorem iRiS.call {ar h a0 a1 y} (H : iRiS a0 a1 = some y) (h0 : leLk ar [(.agg [(.v (.int .i64 a0.1)), (.tree tS a0.2.1), (.v (.int .i64 a0.2.2.1)), (.v (.int .i64 a0.2.2.2.1)), (.v (.int .i64 a0.2.2.2.2.1))]), (.v (.int .i64 a1))] (leHk h [])) : iRiS.S ar h (iRiS.res a0 a1 y) (iRiS.out a0 a1 y) := ⟨a0, a1, y, H, (ao h0).1, (ao h0).2, rfl, rfl⟩
theorem iRiS.spec (a0 a1 y) (H : iRiS a0 a1 = some y) : Spec Tryz.prog 124 [(.agg [(.v (.int .i64 a0.1)), (.tree tS a0.2.1), (.v (.int .i64 a0.2.2.1)), (.v (.int .i64 a0.2.2.2.1)), (.v (.int .i64 a0.2.2.2.2.1))]), (.v (.int .i64 a1))] [] (iRiS.res a0 a1 y) (iRiS.out a0 a1 y) := by
 refine si (G51_ok.at tok []) (ct := []) Tryz.func124 rfl (by kernel_rfl) (by kernel_rfl) rfl ?_
 repeat' first
  | ((with_reducible refine eqg ?_); exact rfl)
  | ((with_reducible refine KOb.mk ?_); kernel_rfl)
  | ((with_reducible intro h); (repeat first | replace H := grd_k H | replace H := os1 H ‹_›); first | replace H := ct1 h H | replace H := cf1 h H | exact absurd h (by decide) | skip)
  | ((with_reducible refine Ob.mk ?_); first | (with_reducible rfl) | (first | ((repeat (first | (with_reducible exact grd_p H) | replace H := grd_k H | replace H := os1 H ‹_›)); done) | rfl | ((repeat (first | exact grd_p H | (have hp := grd_p H; exact hp) | replace H := grd_k H | replace H := os1 H ‹_› | (replace H := bind_some H; obtain ⟨_, _, H⟩ := H))); done) | (repeat (first | exact grd_p H | replace H := grd_k H | replace H := os1 H ‹_›))))
  | (with_reducible exact True.intro)
  | ((conv => whnf); first
      | (with_reducible refine And.intro ?_ ?_)
      | (with_reducible exact True.intro)
      | (with_reducible refine (?_ : Ob _))
      | ((with_reducible refine fm ?_); (repeat first | replace H := grd_k H | replace H := os1 H ‹_›); have H := Option.some.inj H; subst H))
  | constructor
def G52 : Env := G51.add 124 [] iRiS.S
theorem G52_ok : EnvOk Tryz.prog G52 := G51_ok.add ent_124 fun ar h r h1 ⟨a0, a1, y, hy, e1, e2, e3, e4⟩ => by
 subst e3 e4; exact (iRiS.spec a0 a1 y hy).le e1 e2
attribute [local irreducible] iRiS

noncomputable def iIR1 (a0 : Slot) (a100 : Int) (_ : Bool) (_ : Int) : Option (Bool) :=
 (some (decide (a0.1 = a100)))
def iIR1.res (_ : Slot) (_ : Int) (_ : Bool) (_ : Int) (y : Bool) : AV := (.bl y)
def iIR1.out (_ : Slot) (_ : Int) (_ : Bool) (_ : Int) (_ : Bool) : List (Option LB) := []
def iIR1.S (ar : List AV) (h : List (Option LB)) (r : AV) (h1 : List (Option LB)) : Prop := ∃ a0 a100 a101 a102 y, iIR1 a0 a100 a101 a102 = some y ∧ leL ar [(.agg [(.v (.int .i64 a0.1)), (.bl a0.2.1), (.v (.int .i64 a0.2.2.1))]), (.bptr [(.v (.int .i64 a100)), (.bl a101), (.v (.int .i64 a102))] 0)] ∧ leH h [] ∧ r = iIR1.res a0 a100 a101 a102 y ∧ h1 = iIR1.out a0 a100 a101 a102 y
theorem iIR1.call {ar h a0 a100 a101 a102 y} (H : iIR1 a0 a100 a101 a102 = some y) (h0 : leLk ar [(.agg [(.v (.int .i64 a0.1)), (.bl a0.2.1), (.v (.int .i64 a0.2.2.1))]), (.bptr [(.v (.int .i64 a100)), (.bl a101), (.v (.int .i64 a102))] 0)] (leHk h [])) : iIR1.S ar h (iIR1.res a0 a100 a101 a102 y) (iIR1.out a0 a100 a101 a102 y) := ⟨a0, a100, a101, a102, y, H, (ao h0).1, (ao h0).2, rfl, rfl⟩
theorem iIR1.spec (a0 a100 a101 a102 y) (H : iIR1 a0 a100 a101 a102 = some y) : Spec Tryz.prog 126 [(.agg [(.v (.int .i64 a0.1)), (.bl a0.2.1), (.v (.int .i64 a0.2.2.1))]), (.bptr [(.v (.int .i64 a100)), (.bl a101), (.v (.int .i64 a102))] 0)] [] (iIR1.res a0 a100 a101 a102 y) (iIR1.out a0 a100 a101 a102 y) := by
 refine si (G52_ok.at tok []) (ct := []) Tryz.func126 rfl (by kernel_rfl) (by kernel_rfl) rfl ?_
 repeat' first
  | ((with_reducible refine eqg ?_); exact rfl)
  | ((with_reducible refine KOb.mk ?_); kernel_rfl)
  | ((with_reducible intro h); (repeat first | replace H := grd_k H | replace H := os1 H ‹_›); first | replace H := ct1 h H | replace H := cf1 h H | exact absurd h (by decide) | skip)
  | ((with_reducible refine Ob.mk ?_); first | (with_reducible rfl) | (first | ((repeat (first | (with_reducible exact grd_p H) | replace H := grd_k H | replace H := os1 H ‹_›)); done) | rfl | ((repeat (first | exact grd_p H | (have hp := grd_p H; exact hp) | replace H := grd_k H | replace H := os1 H ‹_› | (replace H := bind_some H; obtain ⟨_, _, H⟩ := H))); done) | (repeat (first | exact grd_p H | replace H := grd_k H | replace H := os1 H ‹_›))))
  | (with_reducible exact True.intro)
  | ((conv => whnf); first
      | (with_reducible refine And.intro ?_ ?_)
      | (with_reducible exact True.intro)
      | (with_reducible refine (?_ : Ob _))
      | ((with_reducible refine fm ?_); (repeat first | replace H := grd_k H | replace H := os1 H ‹_›); have H := Option.some.inj H; subst H))
  | constructor
def G53 : Env := G52.add 126 [] iIR1.S
theorem G53_ok : EnvOk Tryz.prog G53 := G52_ok.add ent_126 fun ar h r h1 ⟨a0, a100, a101, a102, y, hy, e1, e2, e3, e4⟩ => by
 subst e3 e4; exact (iIR1.spec a0 a100 a101 a102 y hy).le e1 e2
attribute [local irreducible] iIR1

noncomputable def sIFi5 (a0 : (List Slot)) (a100 : Int) (a101 : Bool) (a102 : Int) (v4 : Int) : Option (Lp (Int) ((Int) ⊕ (Unit))) :=
 (cond (decide (v4 < (a0.length : Int))) (grd (0 ≤ v4 ∧ v4 < (a0.length : Int)) ((iIR1 ((a0.getD v4.toNat dS).1, (a0.getD v4.toNat dS).2.1, (a0.getD v4.toNat dS).2.2.1, ()) a100 a101 a102).bind fun y5 => (cond y5 ((some (.out (Sum.inl v4)))) (some (.go (w64 (v4 + (1 : Int)))))))) ((some (.out (Sum.inr ())))))
noncomputable def sIFi2 (a0 : (List Slot)) (a100 : Int) (a101 : Bool) (a102 : Int) : Option (Int) :=
 ((iter (fun s => sIFi5 a0 a100 a101 a102 s) (0 : Int)).bind (Sum.elim (fun r7 => (some r7)) (fun _ => (some ((-1) : Int)))))
def sIFi2.res (_ : (List Slot)) (_ : Int) (_ : Bool) (_ : Int) (y : Int) : AV := (.v (.int .i64 y))
def sIFi2.out (_ : (List Slot)) (_ : Int) (_ : Bool) (_ : Int) (_ : Int) : List (Option LB) := []
def sIFi2.S (ar : List AV) (h : List (Option LB)) (r : AV) (h1 : List (Option LB)) : Prop := ∃ a0 a100 a101 a102 y, sIFi2 a0 a100 a101 a102 = some y ∧ leL ar [(.tree tS a0), (.fn 126 [(.bptr [(.v (.int .i64 a100)), (.bl a101), (.v (.int .i64 a102))] 0)])] ∧ leH h [] ∧ r = sIFi2.res a0 a100 a101 a102 y ∧ h1 = sIFi2.out a0 a100 a101 a102 y
theorem sIFi2.call {ar h a0 a100 a101 a102 y} (H : sIFi2 a0 a100 a101 a102 = some y) (h0 : leLk ar [(.tree tS a0), (.fn 126 [(.bptr [(.v (.int .i64 a100)), (.bl a101), (.v (.int .i64 a102))] 0)])] (leHk h [])) : sIFi2.S ar h (sIFi2.res a0 a100 a101 a102 y) (sIFi2.out a0 a100 a101 a102 y) := ⟨a0, a100, a101, a102, y, H, (ao h0).1, (ao h0).2, rfl, rfl⟩
theorem sIFi2.spec (a0 a100 a101 a102 y) (H : sIFi2 a0 a100 a101 a102 = some y) : Spec Tryz.prog 156 [(.tree tS a0), (.fn 126 [(.bptr [(.v (.int .i64 a100)), (.bl a101), (.v (.int .i64 a102))] 0)])] [] (sIFi2.res a0 a100 a101 a102 y) (sIFi2.out a0 a100 a101 a102 y) := by
 refine si (G53_ok.at tok []) (ct := []) Tryz.func156 rfl (by kernel_rfl) (by kernel_rfl) rfl ?_
 repeat' first
  | ((with_reducible refine eqg ?_); exact rfl)
  | ((with_reducible refine KOb.mk ?_); kernel_rfl)
  | ((with_reducible intro h); (repeat first | replace H := grd_k H | replace H := os1 H ‹_›); first | replace H := ct1 h H | replace H := cf1 h H | exact absurd h (by decide) | skip)
  | ((with_reducible refine Ob.mk ?_); first | (with_reducible rfl) | (first | ((repeat (first | (with_reducible exact grd_p H) | replace H := grd_k H | replace H := os1 H ‹_›)); done) | rfl | ((repeat (first | exact grd_p H | (have hp := grd_p H; exact hp) | replace H := grd_k H | replace H := os1 H ‹_› | (replace H := bind_some H; obtain ⟨_, _, H⟩ := H))); done) | (repeat (first | exact grd_p H | replace H := grd_k H | replace H := os1 H ‹_›))))
  | (with_reducible exact True.intro)
  | ((conv => whnf); first
      | (with_reducible refine And.intro ?_ ?_)
      | (with_reducible exact True.intro)
      | (with_reducible refine (?_ : Ob _))
      | ((with_reducible refine CallW.mk ?_); (repeat first | replace H := grd_k H | replace H := os1 H ‹_›); replace H := bind_some H; obtain ⟨y, hy, H⟩ := H; first | ((with_reducible have hz : iIR1 _ _ _ _ = some y := hy); clear hz; refine ⟨_, _, iIR1.call hy ?_, rfl, rfl, ?_⟩))
      | ((repeat first | replace H := grd_k H | replace H := os1 H ‹_›); refine li1 (G53_ok.at tok []) (ct := []) (F := (fun s1 : Int => ⟨sl [(0, (.tree tS a0)), (1, (.fn 126 [(.bptr [(.v (.int .i64 a100)), (.bl a101), (.v (.int .i64 a102))] 0)])), (7, (.v (.int .i64 (a0.length : Int)))), (8, (.v (.int .i64 s1)))], []⟩)) (step := (fun s : Int => sIFi5 _ _ _ _ s)) _ H (by kernel_rfl) (sa ?_) ?_; rotate_left; (intro s1 r v hr H); rotate_right)
      | ((repeat first | replace H := grd_k H | replace H := os1 H ‹_›); refine as1 H (by assumption) (sa ?_))
      | ((with_reducible refine fm ?_); (repeat first | replace H := grd_k H | replace H := os1 H ‹_›); have H := Option.some.inj H; subst H))
  | constructor
 all_goals exact viewz _ _
def G54 : Env := G53.add 156 [] sIFi2.S
theorem G54_ok : EnvOk Tryz.prog G54 := G53_ok.add ent_156 fun ar h r h1 ⟨a0, a100, a101, a102, y, hy, e1, e2, e3, e4⟩ => by
 subst e3 e4; exact (sIFi2.spec a0 a100 a101 a102 y hy).le e1 e2
attribute [local irreducible] sIFi2

end Go.Proofs.YtaobinhdnklojaaGreatDoor
namespace Go.Proofs.YtaobinhdnklojaaGreatDoor
open Go.RowKit
set_option maxHeartbeats 100000000
set_option maxRecDepth 100000
attribute [local irreducible] Ob l5 Sub Spec Fin Again CallW CutC KOb iter

attribute [local irreducible] slNf iw iRiS sIFi2

noncomputable def sCFi1 (a0 : (List Slot)) (a100 : Int) (a101 : Bool) (a102 : Int) : Option (Bool) :=
 ((sIFi2 a0 a100 a101 a102).bind fun y1 => (some (decide ((0 : Int) ≤ y1))))
def sCFi1.res (_ : (List Slot)) (_ : Int) (_ : Bool) (_ : Int) (y : Bool) : AV := (.bl y)
def sCFi1.out (_ : (List Slot)) (_ : Int) (_ : Bool) (_ : Int) (_ : Bool) : List (Option LB) := []
def sCFi1.S (ar : List AV) (h : List (Option LB)) (r : AV) (h1 : List (Option LB)) : Prop := ∃ a0 a100 a101 a102 y, sCFi1 a0 a100 a101 a102 = some y ∧ leL ar [(.tree tS a0), (.fn 126 [(.bptr [(.v (.int .i64 a100)), (.bl a101), (.v (.int .i64 a102))] 0)])] ∧ leH h [] ∧ r = sCFi1.res a0 a100 a101 a102 y ∧ h1 = sCFi1.out a0 a100 a101 a102 y
theorem sCFi1.call {ar h a0 a100 a101 a102 y} (H : sCFi1 a0 a100 a101 a102 = some y) (h0 : leLk ar [(.tree tS a0), (.fn 126 [(.bptr [(.v (.int .i64 a100)), (.bl a101), (.v (.int .i64 a102))] 0)])] (leHk h [])) : sCFi1.S ar h (sCFi1.res a0 a100 a101 a102 y) (sCFi1.out a0 a100 a101 a102 y) := ⟨a0, a100, a101, a102, y, H, (ao h0).1, (ao h0).2, rfl, rfl⟩
theorem sCFi1.spec (a0 a100 a101 a102 y) (H : sCFi1 a0 a100 a101 a102 = some y) : Spec Tryz.prog 125 [(.tree tS a0), (.fn 126 [(.bptr [(.v (.int .i64 a100)), (.bl a101), (.v (.int .i64 a102))] 0)])] [] (sCFi1.res a0 a100 a101 a102 y) (sCFi1.out a0 a100 a101 a102 y) := by
 refine si (G54_ok.at tok []) (ct := []) Tryz.func125 rfl (by kernel_rfl) (by kernel_rfl) rfl ?_
 repeat' first
  | ((with_reducible refine eqg ?_); exact rfl)
  | ((with_reducible refine KOb.mk ?_); kernel_rfl)
  | ((with_reducible intro h); (repeat first | replace H := grd_k H | replace H := os1 H ‹_›); first | replace H := ct1 h H | replace H := cf1 h H | exact absurd h (by decide) | skip)
  | ((with_reducible refine Ob.mk ?_); first | (with_reducible rfl) | (first | ((repeat (first | (with_reducible exact grd_p H) | replace H := grd_k H | replace H := os1 H ‹_›)); done) | rfl | ((repeat (first | exact grd_p H | (have hp := grd_p H; exact hp) | replace H := grd_k H | replace H := os1 H ‹_› | (replace H := bind_some H; obtain ⟨_, _, H⟩ := H))); done) | (repeat (first | exact grd_p H | replace H := grd_k H | replace H := os1 H ‹_›))))
  | (with_reducible exact True.intro)
  | ((conv => whnf); first
      | (with_reducible refine And.intro ?_ ?_)
      | (with_reducible exact True.intro)
      | (with_reducible refine (?_ : Ob _))
      | ((with_reducible refine CallW.mk ?_); (repeat first | replace H := grd_k H | replace H := os1 H ‹_›); replace H := bind_some H; obtain ⟨y, hy, H⟩ := H; first | ((with_reducible have hz : sIFi2 _ _ _ _ = some y := hy); clear hz; refine ⟨_, _, sIFi2.call hy ?_, rfl, rfl, ?_⟩))
      | ((with_reducible refine fm ?_); (repeat first | replace H := grd_k H | replace H := os1 H ‹_›); have H := Option.some.inj H; subst H))
  | constructor
 all_goals exact viewz _ _
def G55 : Env := G54.add 125 [] sCFi1.S
theorem G55_ok : EnvOk Tryz.prog G55 := G54_ok.add ent_125 fun ar h r h1 ⟨a0, a100, a101, a102, y, hy, e1, e2, e3, e4⟩ => by
 subst e3 e4; exact (sCFi1.spec a0 a100 a101 a102 y hy).le e1 e2
attribute [local irreducible] sCFi1

noncomputable def iIRl (a0 : R1) (v22 : Int) : Option (Lp (Int) ((Unit) ⊕ (Unit))) :=
 (cond (decide (v22 < (a0.2.1.length : Int))) (grd (0 ≤ v22 ∧ v22 < (a0.2.1.length : Int)) ((iw ((a0.2.1.getD v22.toNat dS).1) (0 : Int) (20 : Int)).bind fun y23 => (cond (!y23) ((some (.out (Sum.inl ())))) ((iw ((a0.2.1.getD v22.toNat dS).2.2.1) (0 : Int) (8 : Int)).bind fun y24 => (cond (!y24) ((some (.out (Sum.inl ())))) (cond (decide (((a0.2.1.getD v22.toNat dS).1) = (0 : Int))) (cond ((a0.2.1.getD v22.toNat dS).2.1) ((some (.out (Sum.inl ())))) (cond (decide ((0 : Int) < ((a0.2.1.getD v22.toNat dS).2.2.1))) ((some (.out (Sum.inl ())))) (some (.go (w64 (v22 + (1 : Int))))))) (cond ((a0.2.1.getD v22.toNat dS).2.1) ((iRiS (a0.1, a0.2.1, a0.2.2.1, a0.2.2.2.1, a0.2.2.2.2.1, ()) v22).bind fun y25 => (cond (!y25) ((some (.out (Sum.inl ())))) (grd ((a0.2.1.length : Int) ≠ 0) (grd (0 ≤ (Int.tmod (w64 (v22 + (1 : Int))) (a0.2.1.length : Int)) ∧ (Int.tmod (w64 (v22 + (1 : Int))) (a0.2.1.length : Int)) < (a0.2.1.length : Int)) (cond (decide ((0 : Int) < ((a0.2.1.getD ((Int.tmod (w64 (v22 + (1 : Int))) (a0.2.1.length : Int)).toNat) dS).1))) ((some (.out (Sum.inl ())))) (grd (0 ≤ (0 : Int) ∧ (0 : Int) ≤ v22 ∧ v22 ≤ (a0.2.1.length : Int)) ((sCFi1 (lsub a0.2.1 (0 : Int) v22) ((a0.2.1.getD v22.toNat dS).1) ((a0.2.1.getD v22.toNat dS).2.1) ((a0.2.1.getD v22.toNat dS).2.2.1)).bind fun y26 => (cond y26 ((some (.out (Sum.inl ())))) (some (.go (w64 (v22 + (1 : Int))))))))))))) (grd ((a0.2.1.length : Int) ≠ 0) (grd (0 ≤ (Int.tmod (w64 (v22 + (1 : Int))) (a0.2.1.length : Int)) ∧ (Int.tmod (w64 (v22 + (1 : Int))) (a0.2.1.length : Int)) < (a0.2.1.length : Int)) (cond (decide ((0 : Int) < ((a0.2.1.getD ((Int.tmod (w64 (v22 + (1 : Int))) (a0.2.1.length : Int)).toNat) dS).1))) ((some (.out (Sum.inl ())))) (grd (0 ≤ (0 : Int) ∧ (0 : Int) ≤ v22 ∧ v22 ≤ (a0.2.1.length : Int)) ((sCFi1 (lsub a0.2.1 (0 : Int) v22) ((a0.2.1.getD v22.toNat dS).1) ((a0.2.1.getD v22.toNat dS).2.1) ((a0.2.1.getD v22.toNat dS).2.2.1)).bind fun y27 => (cond y27 ((some (.out (Sum.inl ())))) (some (.go (w64 (v22 + (1 : Int)))))))))))))))))) ((some (.out (Sum.inr ())))))
noncomputable def iIR (a0 : R1) : Option (Bool) :=
 ((iw a0.1 (0 : Int) (3 : Int)).bind fun y1 => (cond (!y1) ((some false)) ((iw (a0.2.1.length : Int) (4 : Int) (10 : Int)).bind fun y2 => (cond (!y2) ((some false)) (grd ((2 : Int) ≠ 0) (cond (!decide ((Int.tmod (a0.2.1.length : Int) (2 : Int)) = (0 : Int))) ((some false)) ((iw a0.2.2.1 (0 : Int) (500 : Int)).bind fun y3 => (cond (!y3) ((some false)) ((iw a0.2.2.2.1 (0 : Int) (500 : Int)).bind fun y4 => (cond (!y4) ((some false)) ((iw a0.2.2.2.2.1 (0 : Int) (500 : Int)).bind fun y5 => (cond (!y5) ((some false)) ((iter (fun s => iIRl a0 s) (0 : Int)).bind (Sum.elim (fun _ => (some false)) (fun _ => (some true))))))))))))))))
def iIR.res (_ : R1) (y : Bool) : AV := (.bl y)
def iIR.out (_ : R1) (_ : Bool) : List (Option LB) := []
def iIR.S (ar : List AV) (h : List (Option LB)) (r : AV) (h1 : List (Option LB)) : Prop := ∃ a0 y, iIR a0 = some y ∧ leL ar [(.agg [(.v (.int .i64 a0.1)), (.tree tS a0.2.1), (.v (.int .i64 a0.2.2.1)), (.v (.int .i64 a0.2.2.2.1)), (.v (.int .i64 a0.2.2.2.2.1))])] ∧ leH h [] ∧ r = iIR.res a0 y ∧ h1 = iIR.out a0 y
theorem iIR.call {ar h a0 y} (H : iIR a0 = some y) (h0 : leLk ar [(.agg [(.v (.int .i64 a0.1)), (.tree tS a0.2.1), (.v (.int .i64 a0.2.2.1)), (.v (.int .i64 a0.2.2.2.1)), (.v (.int .i64 a0.2.2.2.2.1))])] (leHk h [])) : iIR.S ar h (iIR.res a0 y) (iIR.out a0 y) := ⟨a0, y, H, (ao h0).1, (ao h0).2, rfl, rfl⟩
theorem iIR.spec (a0 y) (H : iIR a0 = some y) : Spec Tryz.prog 85 [(.agg [(.v (.int .i64 a0.1)), (.tree tS a0.2.1), (.v (.int .i64 a0.2.2.1)), (.v (.int .i64 a0.2.2.2.1)), (.v (.int .i64 a0.2.2.2.2.1))])] [] (iIR.res a0 y) (iIR.out a0 y) := by
 refine si (G55_ok.at tok []) (ct := [(3, some [1, 3, 40, 54, 55, 56, 57, 65, 66, 67, 72, 73, 74, 75, 78, 79, 80, 81, 82, 83, 84, 85, 86, 87, 90, 91, 92, 93, 94, 95]), (8, some [1, 3, 4, 5, 42, 43, 44, 54, 55, 56, 57, 58, 65, 66, 67, 72, 73, 74, 75, 78, 79, 80, 81, 82, 83, 84, 85, 86, 87, 90, 91, 92, 93, 94, 95]), (13, some [1, 3, 42, 43, 44, 54, 55, 56, 57, 65, 66, 67, 72, 73, 74, 75, 78, 79, 80, 81, 82, 83, 84, 85, 86, 87, 90, 91, 92, 93, 94, 95, 96])]) Tryz.func85 rfl (by kernel_rfl) (by kernel_rfl) rfl ?_
 repeat' first
  | ((with_reducible refine eqg ?_); exact rfl)
  | ((with_reducible refine KOb.mk ?_); kernel_rfl)
  | ((with_reducible intro h); (repeat first | replace H := grd_k H | replace H := os1 H ‹_›); first | replace H := ct1 h H | replace H := cf1 h H | exact absurd h (by decide) | skip)
  | ((with_reducible refine Ob.mk ?_); first | (with_reducible rfl) | (first | ((repeat (first | (with_reducible exact grd_p H) | replace H := grd_k H | replace H := os1 H ‹_›)); done) | rfl | ((repeat (first | exact grd_p H | (have hp := grd_p H; exact hp) | replace H := grd_k H | replace H := os1 H ‹_› | (replace H := bind_some H; obtain ⟨_, _, H⟩ := H))); done) | (repeat (first | exact grd_p H | replace H := grd_k H | replace H := os1 H ‹_›))))
  | (with_reducible exact True.intro)
  | ((conv => whnf); first
      | (with_reducible refine And.intro ?_ ?_)
      | (with_reducible exact True.intro)
      | (with_reducible refine (?_ : Ob _))
      | ((with_reducible refine CallW.mk ?_); (repeat first | replace H := grd_k H | replace H := os1 H ‹_›); replace H := bind_some H; obtain ⟨y, hy, H⟩ := H; first | ((with_reducible have hz : iw _ _ _ = some y := hy); clear hz; refine ⟨_, _, iw.call hy ?_, rfl, rfl, ?_⟩) | ((with_reducible have hz : iRiS _ _ = some y := hy); clear hz; refine ⟨_, _, iRiS.call hy ?_, rfl, rfl, ?_⟩) | ((with_reducible have hz : sCFi1 _ _ _ _ = some y := hy); clear hz; refine ⟨_, _, sCFi1.call hy ?_, rfl, rfl, ?_⟩))
      | ((repeat first | replace H := grd_k H | replace H := os1 H ‹_›); refine li1 (G55_ok.at tok []) (ct := [(3, some [1, 3, 40, 54, 55, 56, 57, 65, 66, 67, 72, 73, 74, 75, 78, 79, 80, 81, 82, 83, 84, 85, 86, 87, 90, 91, 92, 93, 94, 95]), (8, some [1, 3, 4, 5, 42, 43, 44, 54, 55, 56, 57, 58, 65, 66, 67, 72, 73, 74, 75, 78, 79, 80, 81, 82, 83, 84, 85, 86, 87, 90, 91, 92, 93, 94, 95]), (13, some [1, 3, 42, 43, 44, 54, 55, 56, 57, 65, 66, 67, 72, 73, 74, 75, 78, 79, 80, 81, 82, 83, 84, 85, 86, 87, 90, 91, 92, 93, 94, 95, 96])]) (F := (fun s1 : Int => ⟨sl [(1, (.loc 0 0 0)), (3, (.v (.int .i64 (a0.2.1.length : Int)))), (42, (.tree tS a0.2.1)), (43, (.v (.int .i64 (a0.2.1.length : Int)))), (44, (.v (.int .i64 s1)))], [some (.box 38 [(.v (.int .i64 a0.1)), (.tree tS a0.2.1), (.v (.int .i64 a0.2.2.1)), (.v (.int .i64 a0.2.2.2.1)), (.v (.int .i64 a0.2.2.2.2.1))])]⟩)) (step := (fun s : Int => iIRl _ s)) _ H (by kernel_rfl) (sa ?_) ?_; rotate_left; (intro s1 r v hr H); rotate_right)
      | ((repeat first | replace H := grd_k H | replace H := os1 H ‹_›); refine as1 H (by assumption) (sa ?_))
      | ((with_reducible refine fm ?_); (repeat first | replace H := grd_k H | replace H := os1 H ‹_›); have H := Option.some.inj H; subst H))
  | constructor
def G56 : Env := G55.add 85 [] iIR.S
theorem G56_ok : EnvOk Tryz.prog G56 := G55_ok.add ent_85 fun ar h r h1 ⟨a0, y, hy, e1, e2, e3, e4⟩ => by
 subst e3 e4; exact (iIR.spec a0 y hy).le e1 e2
attribute [local irreducible] iIR

noncomputable def strings_Cut (a0 : ByteArray) (a1 : ByteArray) : Option (ByteArray × ByteArray × Bool) :=
 (grd (a0.size < 4294967281) ((some ((cutA a0 a1), (cutB a0 a1), (cutF a0 a1)))))
def strings_Cut.res (_ : ByteArray) (_ : ByteArray) (y : ByteArray × ByteArray × Bool) : AV := (.tup [(.v (.string y.1)), (.v (.string y.2.1)), (.bl y.2.2)])
def strings_Cut.out (_ : ByteArray) (_ : ByteArray) (_ : ByteArray × ByteArray × Bool) : List (Option LB) := []
def strings_Cut.S (ar : List AV) (h : List (Option LB)) (r : AV) (h1 : List (Option LB)) : Prop := ∃ a0 a1 y, strings_Cut a0 a1 = some y ∧ leL ar [(.v (.string a0)), (.v (.string a1))] ∧ leH h [] ∧ r = strings_Cut.res a0 a1 y ∧ h1 = strings_Cut.out a0 a1 y
theorem strings_Cut.call {ar h a0 a1 y} (H : strings_Cut a0 a1 = some y) (h0 : leLk ar [(.v (.string a0)), (.v (.string a1))] (leHk h [])) : strings_Cut.S ar h (strings_Cut.res a0 a1 y) (strings_Cut.out a0 a1 y) := ⟨a0, a1, y, H, (ao h0).1, (ao h0).2, rfl, rfl⟩
theorem strings_Cut.spec (a0 a1 y) (H : strings_Cut a0 a1 = some y) : Spec Tryz.prog 110 [(.v (.string a0)), (.v (.string a1))] [] (strings_Cut.res a0 a1 y) (strings_Cut.out a0 a1 y) := by
 have hg := grd_p H
 have H := Option.some.inj (grd_k H)
 subst H
 exact esC1 a0 a1 hg
def G57 : Env := G56.add 110 [] strings_Cut.S
theorem G57_ok : EnvOk Tryz.prog G57 := G56_ok.add ent_110 fun ar h r h1 ⟨a0, a1, y, hy, e1, e2, e3, e4⟩ => by
 subst e3 e4; exact (strings_Cut.spec a0 a1 y hy).le e1 e2
attribute [local irreducible] strings_Cut

noncomputable def strings_Contains (a0 : ByteArray) (a1 : ByteArray) : Option (Bool) :=
 (grd (a0.size < 4294967281) ((some (Lib.contains a0.data.toList a1.data.toList))))
def strings_Contains.res (_ : ByteArray) (_ : ByteArray) (y : Bool) : AV := (.bl y)
def strings_Contains.out (_ : ByteArray) (_ : ByteArray) (_ : Bool) : List (Option LB) := []
def strings_Contains.S (ar : List AV) (h : List (Option LB)) (r : AV) (h1 : List (Option LB)) : Prop := ∃ a0 a1 y, strings_Contains a0 a1 = some y ∧ leL ar [(.v (.string a0)), (.v (.string a1))] ∧ leH h [] ∧ r = strings_Contains.res a0 a1 y ∧ h1 = strings_Contains.out a0 a1 y
theorem strings_Contains.call {ar h a0 a1 y} (H : strings_Contains a0 a1 = some y) (h0 : leLk ar [(.v (.string a0)), (.v (.string a1))] (leHk h [])) : strings_Contains.S ar h (strings_Contains.res a0 a1 y) (strings_Contains.out a0 a1 y) := ⟨a0, a1, y, H, (ao h0).1, (ao h0).2, rfl, rfl⟩
theorem strings_Contains.spec (a0 a1 y) (H : strings_Contains a0 a1 = some y) : Spec Tryz.prog 164 [(.v (.string a0)), (.v (.string a1))] [] (strings_Contains.res a0 a1 y) (strings_Contains.out a0 a1 y) := by
 have hg := grd_p H
 have H := Option.some.inj (grd_k H)
 subst H
 exact esC a0 a1 hg
def G58 : Env := G57.add 164 [] strings_Contains.S
theorem G58_ok : EnvOk Tryz.prog G58 := G57_ok.add ent_164 fun ar h r h1 ⟨a0, a1, y, hy, e1, e2, e3, e4⟩ => by
 subst e3 e4; exact (strings_Contains.spec a0 a1 y hy).le e1 e2
attribute [local irreducible] strings_Contains

noncomputable def icl (a0 : ByteArray) (v3 : Int) (v4 : Int) : Option (Lp (Int × Int) ((Int))) :=
 (cond (decide (v4 < (a0.size : Int))) (grd (0 ≤ v4 ∧ v4 < (a0.size : Int)) (grd ((999979 : Int) ≠ 0) (some (.go ((Int.tmod (w64 ((w64 ((w64 ((41 : Int) * v3)) + (w64 (bAt a0 v4)))) + (1 : Int))) (999979 : Int)), (w64 (v4 + (1 : Int)))))))) ((some (.out v3))))
noncomputable def ic (a0 : ByteArray) : Option (Int) :=
 ((iter (fun s => icl a0 s.1 s.2) ((7 : Int), (0 : Int))).bind (fun r5 => (some r5)))
def ic.res (_ : ByteArray) (y : Int) : AV := (.v (.int .i64 y))
def ic.out (_ : ByteArray) (_ : Int) : List (Option LB) := []
def ic.S (ar : List AV) (h : List (Option LB)) (r : AV) (h1 : List (Option LB)) : Prop := ∃ a0 y, ic a0 = some y ∧ leL ar [(.v (.string a0))] ∧ leH h [] ∧ r = ic.res a0 y ∧ h1 = ic.out a0 y
theorem ic.call {ar h a0 y} (H : ic a0 = some y) (h0 : leLk ar [(.v (.string a0))] (leHk h [])) : ic.S ar h (ic.res a0 y) (ic.out a0 y) := ⟨a0, y, H, (ao h0).1, (ao h0).2, rfl, rfl⟩
theorem ic.spec (a0 y) (H : ic a0 = some y) : Spec Tryz.prog 165 [(.v (.string a0))] [] (ic.res a0 y) (ic.out a0 y) := by
 refine si (G58_ok.at tok []) (ct := []) Tryz.func165 rfl (by kernel_rfl) (by kernel_rfl) rfl ?_
 repeat' first
  | ((with_reducible refine eqg ?_); exact rfl)
  | ((with_reducible refine KOb.mk ?_); kernel_rfl)
  | ((with_reducible intro h); (repeat first | replace H := grd_k H | replace H := os1 H ‹_›); first | replace H := ct1 h H | replace H := cf1 h H | exact absurd h (by decide) | skip)
  | ((with_reducible refine Ob.mk ?_); first | (with_reducible rfl) | (first | ((repeat (first | (with_reducible exact grd_p H) | replace H := grd_k H | replace H := os1 H ‹_›)); done) | rfl | ((repeat (first | exact grd_p H | (have hp := grd_p H; exact hp) | replace H := grd_k H | replace H := os1 H ‹_› | (replace H := bind_some H; obtain ⟨_, _, H⟩ := H))); done) | (repeat (first | exact grd_p H | replace H := grd_k H | replace H := os1 H ‹_›))))
  | (with_reducible exact True.intro)
  | ((conv => whnf); first
      | (with_reducible refine And.intro ?_ ?_)
      | (with_reducible exact True.intro)
      | (with_reducible refine (?_ : Ob _))
      | ((repeat first | replace H := grd_k H | replace H := os1 H ‹_›); refine li1 (G58_ok.at tok []) (ct := []) (F := (fun s1 : Int × Int => ⟨sl [(0, (.v (.string a0))), (3, (.v (.int .i64 s1.1))), (6, (.v (.int .i64 (a0.size : Int)))), (7, (.v (.int .i64 s1.2)))], []⟩)) (step := (fun s : Int × Int => icl _ s.1 s.2)) _ H (by kernel_rfl) (sa ?_) ?_; rotate_left; (intro s1 r v hr H); rotate_right)
      | ((repeat first | replace H := grd_k H | replace H := os1 H ‹_›); refine as1 H (by assumption) (sa ?_))
      | ((with_reducible refine fm ?_); (repeat first | replace H := grd_k H | replace H := os1 H ‹_›); have H := Option.some.inj H; subst H))
  | constructor
def G59 : Env := G58.add 165 [] ic.S
theorem G59_ok : EnvOk Tryz.prog G59 := G58_ok.add ent_165 fun ar h r h1 ⟨a0, y, hy, e1, e2, e3, e4⟩ => by
 subst e3 e4; exact (ic.spec a0 y hy).le e1 e2
attribute [local irreducible] ic

noncomputable def strconv_Itoa (a0 : Int) : Option (ByteArray) :=
 (grd (-9223372036854775808 ≤ a0 ∧ a0 ≤ 9223372036854775807) ((some (itoaB a0))))
def strconv_Itoa.res (_ : Int) (y : ByteArray) : AV := (.v (.string y))
def strconv_Itoa.out (_ : Int) (_ : ByteArray) : List (Option LB) := []
def strconv_Itoa.S (ar : List AV) (h : List (Option LB)) (r : AV) (h1 : List (Option LB)) : Prop := ∃ a0 y, strconv_Itoa a0 = some y ∧ leL ar [(.v (.int .i64 a0))] ∧ leH h [] ∧ r = strconv_Itoa.res a0 y ∧ h1 = strconv_Itoa.out a0 y
theorem strconv_Itoa.call {ar h a0 y} (H : strconv_Itoa a0 = some y) (h0 : leLk ar [(.v (.int .i64 a0))] (leHk h [])) : strconv_Itoa.S ar h (strconv_Itoa.res a0 y) (strconv_Itoa.out a0 y) := ⟨a0, y, H, (ao h0).1, (ao h0).2, rfl, rfl⟩
theorem strconv_Itoa.spec (a0 y) (H : strconv_Itoa a0 = some y) : Spec Tryz.prog 61 [(.v (.int .i64 a0))] [] (strconv_Itoa.res a0 y) (strconv_Itoa.out a0 y) := by
 have hg := grd_p H
 have H := Option.some.inj (grd_k H)
 subst H
 exact esI a0 hg
def G60 : Env := G59.add 61 [] strconv_Itoa.S
theorem G60_ok : EnvOk Tryz.prog G60 := G59_ok.add ent_61 fun ar h r h1 ⟨a0, y, hy, e1, e2, e3, e4⟩ => by
 subst e3 e4; exact (strconv_Itoa.spec a0 y hy).le e1 e2
attribute [local irreducible] strconv_Itoa

end Go.Proofs.YtaobinhdnklojaaGreatDoor
