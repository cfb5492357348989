/-
  Contracts, printed by a program.
-/
import Derived.Test.YtaobinhdnklojaaGreatDoorC803
namespace Go.Proofs.YtaobinhdnklojaaGreatDoor
open Go.RowKit
set_option maxHeartbeats 100000000
set_option maxRecDepth 100000
attribute [local irreducible] Ob l5 Sub Spec Fin Again CallW CutC KOb iter

attribute [local irreducible] slS slN slNf slP1 slS2

noncomputable def slG2 (a0 : LR) : Option (Bool) :=
 (cond (!decide (a0.1 = (ByteArray.mk #[]))) ((slP1 a0.1 (160 : Int)).bind fun y1 => (cond y1 ((slS2 a0.1 (64 : Int)).bind fun y2 => (cond (!y2) ((slP1 a0.2.1 (200 : Int)).bind fun y3 => (some y3)) ((some false)))) ((some false)))) ((some false)))
def slG2.res (_ : LR) (y : Bool) : AV := (.bl y)
def slG2.out (_ : LR) (_ : Bool) : List (Option LB) := []
def slG2.S (ar : List AV) (h : List (Option LB)) (r : AV) (h1 : List (Option LB)) : Prop := ∃ a0 y, slG2 a0 = some y ∧ leL ar [(.agg [(.v (.string a0.1)), (.v (.string a0.2.1))])] ∧ leH h [] ∧ r = slG2.res a0 y ∧ h1 = slG2.out a0 y
theorem slG2.call {ar h a0 y} (H : slG2 a0 = some y) (h0 : leLk ar [(.agg [(.v (.string a0.1)), (.v (.string a0.2.1))])] (leHk h [])) : slG2.S ar h (slG2.res a0 y) (slG2.out a0 y) := ⟨a0, y, H, (ao h0).1, (ao h0).2, rfl, rfl⟩
theorem slG2.spec (a0 y) (H : slG2 a0 = some y) : Spec Tryz.prog 41 [(.agg [(.v (.string a0.1)), (.v (.string a0.2.1))])] [] (slG2.res a0 y) (slG2.out a0 y) := by
 refine si (G18_ok.at tok []) (ct := []) Tryz.func41 rfl (by kernel_rfl) (by kernel_rfl) rfl ?_
 repeat' first
  | ((with_reducible refine eqg ?_); exact rfl)
  | ((with_reducible refine KOb.mk ?_); kernel_rfl)
  | ((with_reducible intro h); (repeat first | replace H := grd_k H | replace H := os1 H ‹_›); first | replace H := ct1 h H | replace H := cf1 h H | exact absurd h (by decide) | skip)
  | ((with_reducible refine Ob.mk ?_); first | (with_reducible rfl) | (first | ((repeat (first | (with_reducible exact grd_p H) | replace H := grd_k H | replace H := os1 H ‹_›)); done) | rfl | ((repeat (first | exact grd_p H | (have hp := grd_p H; exact hp) | replace H := grd_k H | replace H := os1 H ‹_› | (replace H := bind_some H; obtain ⟨_, _, H⟩ := H))); done) | (repeat (first | exact grd_p H | replace H := grd_k H | replace H := os1 H ‹_›))))
  | (with_reducible exact True.intro)
  | ((conv => whnf); first
      | (with_reducible refine And.intro ?_ ?_)
      | (with_reducible exact True.intro)
      | (with_reducible refine (?_ : Ob _))
      | ((with_reducible refine CallW.mk ?_); (repeat first | replace H := grd_k H | replace H := os1 H ‹_›); replace H := bind_some H; obtain ⟨y, hy, H⟩ := H; first | ((with_reducible have hz : slP1 _ _ = some y := hy); clear hz; refine ⟨_, _, slP1.call hy ?_, rfl, rfl, ?_⟩) | ((with_reducible have hz : slS2 _ _ = some y := hy); clear hz; refine ⟨_, _, slS2.call hy ?_, rfl, rfl, ?_⟩))
      | ((with_reducible refine fm ?_); (repeat first | replace H := grd_k H | replace H := os1 H ‹_›); have H := Option.some.inj H; subst H))
  | constructor
def G19 : Env := G18.add 41 [] slG2.S
theorem G19_ok : EnvOk Tryz.prog G19 := G18_ok.add ent_41 fun ar h r h1 ⟨a0, y, hy, e1, e2, e3, e4⟩ => by
 subst e3 e4; exact (slG2.spec a0 y hy).le e1 e2
attribute [local irreducible] slG2

noncomputable def slSl4 (a0 : ByteArray) (v3 : Int) (v4 : Int) : Option (Lp (Int × Int) ((Int))) :=
 (cond (decide (v4 < (a0.size : Int))) (grd (0 ≤ v4 ∧ v4 < (a0.size : Int)) (grd ((999979 : Int) ≠ 0) (some (.go ((Int.tmod (w64 ((w64 ((w64 ((41 : Int) * v3)) + (w64 (bAt a0 v4)))) + (1 : Int))) (999979 : Int)), (w64 (v4 + (1 : Int)))))))) ((some (.out v3))))
noncomputable def slS7 (a0 : ByteArray) : Option (Int) :=
 ((iter (fun s => slSl4 a0 s.1 s.2) ((7 : Int), (0 : Int))).bind (fun r5 => (some r5)))
def slS7.res (_ : ByteArray) (y : Int) : AV := (.v (.int .i64 y))
def slS7.out (_ : ByteArray) (_ : Int) : List (Option LB) := []
def slS7.S (ar : List AV) (h : List (Option LB)) (r : AV) (h1 : List (Option LB)) : Prop := ∃ a0 y, slS7 a0 = some y ∧ leL ar [(.v (.string a0))] ∧ leH h [] ∧ r = slS7.res a0 y ∧ h1 = slS7.out a0 y
theorem slS7.call {ar h a0 y} (H : slS7 a0 = some y) (h0 : leLk ar [(.v (.string a0))] (leHk h [])) : slS7.S ar h (slS7.res a0 y) (slS7.out a0 y) := ⟨a0, y, H, (ao h0).1, (ao h0).2, rfl, rfl⟩
theorem slS7.spec (a0 y) (H : slS7 a0 = some y) : Spec Tryz.prog 155 [(.v (.string a0))] [] (slS7.res a0 y) (slS7.out a0 y) := by
 refine si (G19_ok.at tok []) (ct := [(4, some [0, 3, 4])]) Tryz.func155 rfl (by kernel_rfl) (by kernel_rfl) rfl ?_
 repeat' first
  | ((with_reducible refine eqg ?_); exact rfl)
  | ((with_reducible refine KOb.mk ?_); kernel_rfl)
  | ((with_reducible intro h); (repeat first | replace H := grd_k H | replace H := os1 H ‹_›); first | replace H := ct1 h H | replace H := cf1 h H | exact absurd h (by decide) | skip)
  | ((with_reducible refine Ob.mk ?_); first | (with_reducible rfl) | (first | ((repeat (first | (with_reducible exact grd_p H) | replace H := grd_k H | replace H := os1 H ‹_›)); done) | rfl | ((repeat (first | exact grd_p H | (have hp := grd_p H; exact hp) | replace H := grd_k H | replace H := os1 H ‹_› | (replace H := bind_some H; obtain ⟨_, _, H⟩ := H))); done) | (repeat (first | exact grd_p H | replace H := grd_k H | replace H := os1 H ‹_›))))
  | (with_reducible exact True.intro)
  | ((conv => whnf); first
      | (with_reducible refine And.intro ?_ ?_)
      | (with_reducible exact True.intro)
      | (with_reducible refine (?_ : Ob _))
      | ((repeat first | replace H := grd_k H | replace H := os1 H ‹_›); refine li1 (G19_ok.at tok []) (ct := [(4, some [0, 3, 4])]) (F := (fun s1 : Int × Int => ⟨sl [(0, (.v (.string a0))), (3, (.v (.int .i64 s1.1))), (4, (.v (.int .i64 s1.2)))], []⟩)) (step := (fun s : Int × Int => slSl4 _ s.1 s.2)) _ H (by kernel_rfl) (sa ?_) ?_; rotate_left; (intro s1 r v hr H); rotate_right)
      | ((repeat first | replace H := grd_k H | replace H := os1 H ‹_›); refine as1 H (by assumption) (sa ?_))
      | ((with_reducible refine fm ?_); (repeat first | replace H := grd_k H | replace H := os1 H ‹_›); have H := Option.some.inj H; subst H))
  | constructor
def G20 : Env := G19.add 155 [] slS7.S
theorem G20_ok : EnvOk Tryz.prog G20 := G19_ok.add ent_155 fun ar h r h1 ⟨a0, y, hy, e1, e2, e3, e4⟩ => by
 subst e3 e4; exact (slS7.spec a0 y hy).le e1 e2
attribute [local irreducible] slS7

noncomputable def slS6 (a0 : ByteArray) : Option (ByteArray) :=
 (grd (a0.size + (ByteArray.mk #[35]).size ≤ 9223372036854775807) ((slS7 a0).bind fun y1 => ((slN y1).bind fun y2 => (grd ((a0 ++ (ByteArray.mk #[35])).size + y2.size ≤ 9223372036854775807) ((some ((a0 ++ (ByteArray.mk #[35])) ++ y2)))))))
def slS6.res (_ : ByteArray) (y : ByteArray) : AV := (.v (.string y))
def slS6.out (_ : ByteArray) (_ : ByteArray) : List (Option LB) := []
def slS6.S (ar : List AV) (h : List (Option LB)) (r : AV) (h1 : List (Option LB)) : Prop := ∃ a0 y, slS6 a0 = some y ∧ leL ar [(.v (.string a0))] ∧ leH h [] ∧ r = slS6.res a0 y ∧ h1 = slS6.out a0 y
theorem slS6.call {ar h a0 y} (H : slS6 a0 = some y) (h0 : leLk ar [(.v (.string a0))] (leHk h [])) : slS6.S ar h (slS6.res a0 y) (slS6.out a0 y) := ⟨a0, y, H, (ao h0).1, (ao h0).2, rfl, rfl⟩
theorem slS6.spec (a0 y) (H : slS6 a0 = some y) : Spec Tryz.prog 122 [(.v (.string a0))] [] (slS6.res a0 y) (slS6.out a0 y) := by
 refine si (G20_ok.at tok []) (ct := []) Tryz.func122 rfl (by kernel_rfl) (by kernel_rfl) rfl ?_
 repeat' first
  | ((with_reducible refine eqg ?_); exact rfl)
  | ((with_reducible refine KOb.mk ?_); kernel_rfl)
  | ((with_reducible intro h); (repeat first | replace H := grd_k H | replace H := os1 H ‹_›); first | replace H := ct1 h H | replace H := cf1 h H | exact absurd h (by decide) | skip)
  | ((with_reducible refine Ob.mk ?_); first | (with_reducible rfl) | (first | ((repeat (first | (with_reducible exact grd_p H) | replace H := grd_k H | replace H := os1 H ‹_›)); done) | rfl | ((repeat (first | exact grd_p H | (have hp := grd_p H; exact hp) | replace H := grd_k H | replace H := os1 H ‹_› | (replace H := bind_some H; obtain ⟨_, _, H⟩ := H))); done) | (repeat (first | exact grd_p H | replace H := grd_k H | replace H := os1 H ‹_›))))
  | (with_reducible exact True.intro)
  | ((conv => whnf); first
      | (with_reducible refine And.intro ?_ ?_)
      | (with_reducible exact True.intro)
      | (with_reducible refine (?_ : Ob _))
      | ((with_reducible refine CallW.mk ?_); (repeat first | replace H := grd_k H | replace H := os1 H ‹_›); replace H := bind_some H; obtain ⟨y, hy, H⟩ := H; first | ((with_reducible have hz : slS7 _ = some y := hy); clear hz; refine ⟨_, _, slS7.call hy ?_, rfl, rfl, ?_⟩) | ((with_reducible have hz : slN _ = some y := hy); clear hz; refine ⟨_, _, slN.call hy ?_, rfl, rfl, ?_⟩))
      | ((with_reducible refine fm ?_); (repeat first | replace H := grd_k H | replace H := os1 H ‹_›); have H := Option.some.inj H; subst H))
  | constructor
def G21 : Env := G20.add 122 [] slS6.S
theorem G21_ok : EnvOk Tryz.prog G21 := G20_ok.add ent_122 fun ar h r h1 ⟨a0, y, hy, e1, e2, e3, e4⟩ => by
 subst e3 e4; exact (slS6.spec a0 y hy).le e1 e2
attribute [local irreducible] slS6

noncomputable def slL2 (a0 : Int) (a1 : LR) : Option (ByteArray) :=
 ((slN a0).bind fun y1 => (grd (y1.size + (ByteArray.mk #[32]).size ≤ 9223372036854775807) (grd ((y1 ++ (ByteArray.mk #[32])).size + a1.1.size ≤ 9223372036854775807) (grd (((y1 ++ (ByteArray.mk #[32])) ++ a1.1).size + (ByteArray.mk #[64]).size ≤ 9223372036854775807) (grd ((((y1 ++ (ByteArray.mk #[32])) ++ a1.1) ++ (ByteArray.mk #[64])).size + a1.2.1.size ≤ 9223372036854775807) ((slS6 ((((y1 ++ (ByteArray.mk #[32])) ++ a1.1) ++ (ByteArray.mk #[64])) ++ a1.2.1)).bind fun y2 => (grd (y2.size + (ByteArray.mk #[10]).size ≤ 9223372036854775807) ((some (y2 ++ (ByteArray.mk #[10])))))))))))
def slL2.res (_ : Int) (_ : LR) (y : ByteArray) : AV := (.v (.string y))
def slL2.out (_ : Int) (_ : LR) (_ : ByteArray) : List (Option LB) := []
def slL2.S (ar : List AV) (h : List (Option LB)) (r : AV) (h1 : List (Option LB)) : Prop := ∃ a0 a1 y, slL2 a0 a1 = some y ∧ leL ar [(.v (.int .i64 a0)), (.agg [(.v (.string a1.1)), (.v (.string a1.2.1))])] ∧ leH h [] ∧ r = slL2.res a0 a1 y ∧ h1 = slL2.out a0 a1 y
theorem slL2.call {ar h a0 a1 y} (H : slL2 a0 a1 = some y) (h0 : leLk ar [(.v (.int .i64 a0)), (.agg [(.v (.string a1.1)), (.v (.string a1.2.1))])] (leHk h [])) : slL2.S ar h (slL2.res a0 a1 y) (slL2.out a0 a1 y) := ⟨a0, a1, y, H, (ao h0).1, (ao h0).2, rfl, rfl⟩
theorem slL2.spec (a0 a1 y) (H : slL2 a0 a1 = some y) : Spec Tryz.prog 82 [(.v (.int .i64 a0)), (.agg [(.v (.string a1.1)), (.v (.string a1.2.1))])] [] (slL2.res a0 a1 y) (slL2.out a0 a1 y) := by
 refine si (G21_ok.at tok []) (ct := []) Tryz.func82 rfl (by kernel_rfl) (by kernel_rfl) rfl ?_
 repeat' first
  | ((with_reducible refine eqg ?_); exact rfl)
  | ((with_reducible refine KOb.mk ?_); kernel_rfl)
  | ((with_reducible intro h); (repeat first | replace H := grd_k H | replace H := os1 H ‹_›); first | replace H := ct1 h H | replace H := cf1 h H | exact absurd h (by decide) | skip)
  | ((with_reducible refine Ob.mk ?_); first | (with_reducible rfl) | (first | ((repeat (first | (with_reducible exact grd_p H) | replace H := grd_k H | replace H := os1 H ‹_›)); done) | rfl | ((repeat (first | exact grd_p H | (have hp := grd_p H; exact hp) | replace H := grd_k H | replace H := os1 H ‹_› | (replace H := bind_some H; obtain ⟨_, _, H⟩ := H))); done) | (repeat (first | exact grd_p H | replace H := grd_k H | replace H := os1 H ‹_›))))
  | (with_reducible exact True.intro)
  | ((conv => whnf); first
      | (with_reducible refine And.intro ?_ ?_)
      | (with_reducible exact True.intro)
      | (with_reducible refine (?_ : Ob _))
      | ((with_reducible refine CallW.mk ?_); (repeat first | replace H := grd_k H | replace H := os1 H ‹_›); replace H := bind_some H; obtain ⟨y, hy, H⟩ := H; first | ((with_reducible have hz : slN _ = some y := hy); clear hz; refine ⟨_, _, slN.call hy ?_, rfl, rfl, ?_⟩) | ((with_reducible have hz : slS6 _ = some y := hy); clear hz; refine ⟨_, _, slS6.call hy ?_, rfl, rfl, ?_⟩))
      | ((with_reducible refine fm ?_); (repeat first | replace H := grd_k H | replace H := os1 H ‹_›); have H := Option.some.inj H; subst H))
  | constructor
def G22 : Env := G21.add 82 [] slL2.S
theorem G22_ok : EnvOk Tryz.prog G22 := G21_ok.add ent_82 fun ar h r h1 ⟨a0, a1, y, hy, e1, e2, e3, e4⟩ => by
 subst e3 e4; exact (slL2.spec a0 a1 y hy).le e1 e2
attribute [local irreducible] slL2

noncomputable def slR2 (a0 : ByteArray) (a1 : Int) : Option (LR × Bool) :=
 ((slN a1).bind fun y1 => (grd (y1.size + (ByteArray.mk #[32]).size ≤ 9223372036854775807) ((slS a0 (35 : Int)).bind fun y2 => (grd (0 ≤ (0 : Int) ∧ (0 : Int) < (y2.length : Int)) (cond (decide (((y2.getD ((0 : Int).toNat) (ByteArray.mk #[])).size : Int) < ((y1 ++ (ByteArray.mk #[32])).size : Int))) ((some (((ByteArray.mk #[]), (ByteArray.mk #[]), ()), false))) (grd (0 ≤ (0 : Int) ∧ (0 : Int) ≤ ((y1 ++ (ByteArray.mk #[32])).size : Int) ∧ ((y1 ++ (ByteArray.mk #[32])).size : Int) ≤ ((y2.getD ((0 : Int).toNat) (ByteArray.mk #[])).size : Int)) (cond (!decide ((bsub (y2.getD ((0 : Int).toNat) (ByteArray.mk #[])) (0 : Int) ((y1 ++ (ByteArray.mk #[32])).size : Int)) = (y1 ++ (ByteArray.mk #[32])))) ((some (((ByteArray.mk #[]), (ByteArray.mk #[]), ()), false))) (grd (0 ≤ ((y1 ++ (ByteArray.mk #[32])).size : Int) ∧ ((y1 ++ (ByteArray.mk #[32])).size : Int) ≤ ((y2.getD ((0 : Int).toNat) (ByteArray.mk #[])).size : Int) ∧ ((y2.getD ((0 : Int).toNat) (ByteArray.mk #[])).size : Int) ≤ ((y2.getD ((0 : Int).toNat) (ByteArray.mk #[])).size : Int)) ((slS (bsub (y2.getD ((0 : Int).toNat) (ByteArray.mk #[])) ((y1 ++ (ByteArray.mk #[32])).size : Int) ((y2.getD ((0 : Int).toNat) (ByteArray.mk #[])).size : Int)) (64 : Int)).bind fun y3 => (grd (0 ≤ (0 : Int) ∧ (0 : Int) < (y3.length : Int)) (cond (decide (((y3.getD ((0 : Int).toNat) (ByteArray.mk #[])).size : Int) = ((bsub (y2.getD ((0 : Int).toNat) (ByteArray.mk #[])) ((y1 ++ (ByteArray.mk #[32])).size : Int) ((y2.getD ((0 : Int).toNat) (ByteArray.mk #[])).size : Int)).size : Int))) ((some (((ByteArray.mk #[]), (ByteArray.mk #[]), ()), false))) (grd (0 ≤ (w64 (((y3.getD ((0 : Int).toNat) (ByteArray.mk #[])).size : Int) + (1 : Int))) ∧ (w64 (((y3.getD ((0 : Int).toNat) (ByteArray.mk #[])).size : Int) + (1 : Int))) ≤ ((bsub (y2.getD ((0 : Int).toNat) (ByteArray.mk #[])) ((y1 ++ (ByteArray.mk #[32])).size : Int) ((y2.getD ((0 : Int).toNat) (ByteArray.mk #[])).size : Int)).size : Int) ∧ ((bsub (y2.getD ((0 : Int).toNat) (ByteArray.mk #[])) ((y1 ++ (ByteArray.mk #[32])).size : Int) ((y2.getD ((0 : Int).toNat) (ByteArray.mk #[])).size : Int)).size : Int) ≤ ((bsub (y2.getD ((0 : Int).toNat) (ByteArray.mk #[])) ((y1 ++ (ByteArray.mk #[32])).size : Int) ((y2.getD ((0 : Int).toNat) (ByteArray.mk #[])).size : Int)).size : Int)) ((slG2 ((y3.getD ((0 : Int).toNat) (ByteArray.mk #[])), (bsub (bsub (y2.getD ((0 : Int).toNat) (ByteArray.mk #[])) ((y1 ++ (ByteArray.mk #[32])).size : Int) ((y2.getD ((0 : Int).toNat) (ByteArray.mk #[])).size : Int)) (w64 (((y3.getD ((0 : Int).toNat) (ByteArray.mk #[])).size : Int) + (1 : Int))) ((bsub (y2.getD ((0 : Int).toNat) (ByteArray.mk #[])) ((y1 ++ (ByteArray.mk #[32])).size : Int) ((y2.getD ((0 : Int).toNat) (ByteArray.mk #[])).size : Int)).size : Int)), ())).bind fun y4 => (cond y4 ((slL2 a1 ((y3.getD ((0 : Int).toNat) (ByteArray.mk #[])), (bsub (bsub (y2.getD ((0 : Int).toNat) (ByteArray.mk #[])) ((y1 ++ (ByteArray.mk #[32])).size : Int) ((y2.getD ((0 : Int).toNat) (ByteArray.mk #[])).size : Int)) (w64 (((y3.getD ((0 : Int).toNat) (ByteArray.mk #[])).size : Int) + (1 : Int))) ((bsub (y2.getD ((0 : Int).toNat) (ByteArray.mk #[])) ((y1 ++ (ByteArray.mk #[32])).size : Int) ((y2.getD ((0 : Int).toNat) (ByteArray.mk #[])).size : Int)).size : Int)), ())).bind fun y5 => (grd (a0.size + (ByteArray.mk #[10]).size ≤ 9223372036854775807) ((some (((y3.getD ((0 : Int).toNat) (ByteArray.mk #[])), (bsub (bsub (y2.getD ((0 : Int).toNat) (ByteArray.mk #[])) ((y1 ++ (ByteArray.mk #[32])).size : Int) ((y2.getD ((0 : Int).toNat) (ByteArray.mk #[])).size : Int)) (w64 (((y3.getD ((0 : Int).toNat) (ByteArray.mk #[])).size : Int) + (1 : Int))) ((bsub (y2.getD ((0 : Int).toNat) (ByteArray.mk #[])) ((y1 ++ (ByteArray.mk #[32])).size : Int) ((y2.getD ((0 : Int).toNat) (ByteArray.mk #[])).size : Int)).size : Int)), ()), (decide (y5 = (a0 ++ (ByteArray.mk #[10]))))))))) ((some (((y3.getD ((0 : Int).toNat) (ByteArray.mk #[])), (bsub (bsub (y2.getD ((0 : Int).toNat) (ByteArray.mk #[])) ((y1 ++ (ByteArray.mk #[32])).size : Int) ((y2.getD ((0 : Int).toNat) (ByteArray.mk #[])).size : Int)) (w64 (((y3.getD ((0 : Int).toNat) (ByteArray.mk #[])).size : Int) + (1 : Int))) ((bsub (y2.getD ((0 : Int).toNat) (ByteArray.mk #[])) ((y1 ++ (ByteArray.mk #[32])).size : Int) ((y2.getD ((0 : Int).toNat) (ByteArray.mk #[])).size : Int)).size : Int)), ()), false)))))))))))))))))
def slR2.res (_ : ByteArray) (_ : Int) (y : LR × Bool) : AV := (.tup [(.agg [(.v (.string y.1.1)), (.v (.string y.1.2.1))]), (.bl y.2)])
def slR2.out (_ : ByteArray) (_ : Int) (_ : LR × Bool) : List (Option LB) := []
def slR2.S (ar : List AV) (h : List (Option LB)) (r : AV) (h1 : List (Option LB)) : Prop := ∃ a0 a1 y, slR2 a0 a1 = some y ∧ leL ar [(.v (.string a0)), (.v (.int .i64 a1))] ∧ leH h [] ∧ r = slR2.res a0 a1 y ∧ h1 = slR2.out a0 a1 y
theorem slR2.call {ar h a0 a1 y} (H : slR2 a0 a1 = some y) (h0 : leLk ar [(.v (.string a0)), (.v (.int .i64 a1))] (leHk h [])) : slR2.S ar h (slR2.res a0 a1 y) (slR2.out a0 a1 y) := ⟨a0, a1, y, H, (ao h0).1, (ao h0).2, rfl, rfl⟩
theorem slR2.spec (a0 a1 y) (H : slR2 a0 a1 = some y) : Spec Tryz.prog 112 [(.v (.string a0)), (.v (.int .i64 a1))] [] (slR2.res a0 a1 y) (slR2.out a0 a1 y) := by
 refine si (G22_ok.at tok []) (ct := [(4, some [0, 1, 4, 6, 7, 30, 57, 58, 59, 60, 61, 62]), (8, some [0, 1, 4, 8, 9, 44, 57, 58, 59, 60, 61, 62])]) Tryz.func112 rfl (by kernel_rfl) (by kernel_rfl) rfl ?_
 repeat' first
  | ((with_reducible refine eqg ?_); exact rfl)
  | ((with_reducible refine KOb.mk ?_); kernel_rfl)
  | ((with_reducible intro h); (repeat first | replace H := grd_k H | replace H := os1 H ‹_›); first | replace H := ct1 h H | replace H := cf1 h H | exact absurd h (by decide) | skip)
  | ((with_reducible refine Ob.mk ?_); first | (with_reducible rfl) | (first | ((repeat (first | (with_reducible exact grd_p H) | replace H := grd_k H | replace H := os1 H ‹_›)); done) | rfl | ((repeat (first | exact grd_p H | (have hp := grd_p H; exact hp) | replace H := grd_k H | replace H := os1 H ‹_› | (replace H := bind_some H; obtain ⟨_, _, H⟩ := H))); done) | (repeat (first | exact grd_p H | replace H := grd_k H | replace H := os1 H ‹_›))))
  | (with_reducible exact True.intro)
  | ((conv => whnf); first
      | (with_reducible refine And.intro ?_ ?_)
      | (with_reducible exact True.intro)
      | (with_reducible refine (?_ : Ob _))
      | ((with_reducible refine CallW.mk ?_); (repeat first | replace H := grd_k H | replace H := os1 H ‹_›); replace H := bind_some H; obtain ⟨y, hy, H⟩ := H; first | ((with_reducible have hz : slN _ = some y := hy); clear hz; refine ⟨_, _, slN.call hy ?_, rfl, rfl, ?_⟩) | ((with_reducible have hz : slS _ _ = some y := hy); clear hz; refine ⟨_, _, slS.call hy ?_, rfl, rfl, ?_⟩) | ((with_reducible have hz : slG2 _ = some y := hy); clear hz; refine ⟨_, _, slG2.call hy ?_, rfl, rfl, ?_⟩) | ((with_reducible have hz : slL2 _ _ = some y := hy); clear hz; refine ⟨_, _, slL2.call hy ?_, rfl, rfl, ?_⟩))
      | ((with_reducible refine fm ?_); (repeat first | replace H := grd_k H | replace H := os1 H ‹_›); have H := Option.some.inj H; subst H))
  | constructor
def G23 : Env := G22.add 112 [] slR2.S
theorem G23_ok : EnvOk Tryz.prog G23 := G22_ok.add ent_112 fun ar h r h1 ⟨a0, a1, y, hy, e1, e2, e3, e4⟩ => by
 subst e3 e4; exact (slR2.spec a0 a1 y hy).le e1 e2
attribute [local irreducible] slR2

noncomputable def slOl1 (a0 : ByteArray) (v9 : Int) (v10 : (List LR)) : Option (Lp (Int × (List LR)) ((Int × (List LR)))) :=
 (cond (decide (v9 < (a0.size : Int))) (cond (decide ((v10.length : Int) < (60 : Int))) (grd (0 ≤ v9 ∧ v9 ≤ (a0.size : Int) ∧ (a0.size : Int) ≤ (a0.size : Int)) ((slS (bsub a0 v9 (a0.size : Int)) (10 : Int)).bind fun y11 => (grd (0 ≤ (0 : Int) ∧ (0 : Int) < (y11.length : Int)) ((slR2 (y11.getD ((0 : Int).toNat) (ByteArray.mk #[])) (v10.length : Int)).bind fun y12 => (cond (decide ((y11.length : Int) < (2 : Int))) ((some (.out (v9, v10)))) (cond (!y12.2) ((some (.out (v9, v10)))) (grd (v10.length + [(y12.1.1, y12.1.2.1, ())].length ≤ 140737488355328 / 32 ∧ v10.length + [(y12.1.1, y12.1.2.1, ())].length ≤ 140737488355328) (grd (0 ≤ (0 : Int) ∧ (0 : Int) < (y11.length : Int)) (some (.go ((w64 ((w64 (v9 + ((y11.getD ((0 : Int).toNat) (ByteArray.mk #[])).size : Int))) + (1 : Int))), (v10 ++ [(y12.1.1, y12.1.2.1, ())])))))))))))) ((some (.out (v9, v10))))) ((some (.out (v9, v10)))))
noncomputable def slO1 (a0 : ByteArray) : Option ((List LR) × Int) :=
 ((iter (fun s => slOl1 a0 s.1 s.2) ((0 : Int), ([] : List LR))).bind (fun r13 => (some (r13.2, r13.1))))
def slO1.res (_ : ByteArray) (y : (List LR) × Int) : AV := (.tup [(.own 0), (.v (.int .i64 y.2))])
def slO1.out (_ : ByteArray) (y : (List LR) × Int) : List (Option LB) := [some (.arr 70 tLR y.1)]
def slO1.S (ar : List AV) (h : List (Option LB)) (r : AV) (h1 : List (Option LB)) : Prop := ∃ a0 y, slO1 a0 = some y ∧ leL ar [(.v (.string a0))] ∧ leH h [] ∧ r = slO1.res a0 y ∧ h1 = slO1.out a0 y
theorem slO1.call {ar h a0 y} (H : slO1 a0 = some y) (h0 : leLk ar [(.v (.string a0))] (leHk h [])) : slO1.S ar h (slO1.res a0 y) (slO1.out a0 y) := ⟨a0, y, H, (ao h0).1, (ao h0).2, rfl, rfl⟩
theorem slO1.spec (a0 y) (H : slO1 a0 = some y) : Spec Tryz.prog 72 [(.v (.string a0))] [] (slO1.res a0 y) (slO1.out a0 y) := by
 refine si (G23_ok.at tok []) (ct := [(5, some [0, 4, 5, 6, 15, 16, 17, 36, 37]), (7, some [0, 4, 5, 6, 7, 15, 16, 17, 36, 37])]) Tryz.func72 rfl (by kernel_rfl) (by kernel_rfl) rfl ?_
 repeat' first
  | ((with_reducible refine eqg ?_); exact rfl)
  | ((with_reducible refine KOb.mk ?_); kernel_rfl)
  | ((with_reducible intro h); (repeat first | replace H := grd_k H | replace H := os1 H ‹_›); first | replace H := ct1 h H | replace H := cf1 h H | exact absurd h (by decide) | skip)
  | ((with_reducible refine Ob.mk ?_); first | (with_reducible rfl) | (first | ((repeat (first | (with_reducible exact grd_p H) | replace H := grd_k H | replace H := os1 H ‹_›)); done) | rfl | ((repeat (first | exact grd_p H | (have hp := grd_p H; exact hp) | replace H := grd_k H | replace H := os1 H ‹_› | (replace H := bind_some H; obtain ⟨_, _, H⟩ := H))); done) | (repeat (first | exact grd_p H | replace H := grd_k H | replace H := os1 H ‹_›))))
  | (with_reducible exact True.intro)
  | ((conv => whnf); first
      | (with_reducible refine And.intro ?_ ?_)
      | (with_reducible exact True.intro)
      | (with_reducible refine (?_ : Ob _))
      | ((with_reducible refine CallW.mk ?_); (repeat first | replace H := grd_k H | replace H := os1 H ‹_›); replace H := bind_some H; obtain ⟨y, hy, H⟩ := H; first | ((with_reducible have hz : slS _ _ = some y := hy); clear hz; refine ⟨_, _, slS.call hy ?_, rfl, rfl, ?_⟩) | ((with_reducible have hz : slR2 _ _ = some y := hy); clear hz; refine ⟨_, _, slR2.call hy ?_, rfl, rfl, ?_⟩))
      | ((repeat first | replace H := grd_k H | replace H := os1 H ‹_›); refine li1 (G23_ok.at tok []) (ct := [(5, some [0, 4, 5, 6, 15, 16, 17, 36, 37]), (7, some [0, 4, 5, 6, 7, 15, 16, 17, 36, 37])]) (F := (fun s1 : Int × (List LR) => ⟨sl [(0, (.v (.string a0))), (4, (.own 0)), (5, (.v (.int .i64 s1.1)))], [some (.arr 70 tLR s1.2)]⟩)) (step := (fun s : Int × (List LR) => slOl1 _ s.1 s.2)) _ H (by kernel_rfl) (sa ?_) ?_; rotate_left; (intro s1 r v hr H); rotate_right)
      | ((repeat first | replace H := grd_k H | replace H := os1 H ‹_›); refine as1 H (by assumption) (sa ?_))
      | ((with_reducible refine fm ?_); (repeat first | replace H := grd_k H | replace H := os1 H ‹_›); have H := Option.some.inj H; subst H))
  | constructor
def G24 : Env := G23.add 72 [] slO1.S
theorem G24_ok : EnvOk Tryz.prog G24 := G23_ok.add ent_72 fun ar h r h1 ⟨a0, y, hy, e1, e2, e3, e4⟩ => by
 subst e3 e4; exact (slO1.spec a0 y hy).le e1 e2
attribute [local irreducible] slO1

end Go.Proofs.YtaobinhdnklojaaGreatDoor
namespace Go.Proofs.YtaobinhdnklojaaGreatDoor
open Go.RowKit
set_option maxHeartbeats 100000000
set_option maxRecDepth 100000
attribute [local irreducible] Ob l5 Sub Spec Fin Again CallW CutC KOb iter

attribute [local irreducible] slO2 slI slG slNf slO1

noncomputable def slL (a0 : Log) : Option (Bool) :=
 (cond (decide ((30000 : Int) < (w64 ((a0.1.size : Int) + (a0.2.1.size : Int))))) ((some false)) (grd (a0.1.size + a0.2.1.size ≤ 9223372036854775807) ((slO1 (a0.1 ++ a0.2.1)).bind fun y1 => ((slO1 a0.1).bind fun y2 => (cond (decide (y1.2 = (w64 ((a0.1.size : Int) + (a0.2.1.size : Int))))) (cond (decide (y2.2 = (a0.1.size : Int))) ((some (decide ((y1.1.length : Int) = a0.2.2.1)))) ((some false))) ((some false)))))))
def slL.res (_ : Log) (y : Bool) : AV := (.bl y)
def slL.out (_ : Log) (_ : Bool) : List (Option LB) := []
def slL.S (ar : List AV) (h : List (Option LB)) (r : AV) (h1 : List (Option LB)) : Prop := ∃ a0 y, slL a0 = some y ∧ leL ar [(.agg [(.v (.string a0.1)), (.v (.string a0.2.1)), (.v (.int .i64 a0.2.2.1))])] ∧ leH h [] ∧ r = slL.res a0 y ∧ h1 = slL.out a0 y
theorem slL.call {ar h a0 y} (H : slL a0 = some y) (h0 : leLk ar [(.agg [(.v (.string a0.1)), (.v (.string a0.2.1)), (.v (.int .i64 a0.2.2.1))])] (leHk h [])) : slL.S ar h (slL.res a0 y) (slL.out a0 y) := ⟨a0, y, H, (ao h0).1, (ao h0).2, rfl, rfl⟩
theorem slL.spec (a0 y) (H : slL a0 = some y) : Spec Tryz.prog 35 [(.agg [(.v (.string a0.1)), (.v (.string a0.2.1)), (.v (.int .i64 a0.2.2.1))])] [] (slL.res a0 y) (slL.out a0 y) := by
 refine si (G24_ok.at tok []) (ct := [(4, some [1, 3, 4, 40, 41, 42, 43, 44, 47, 48, 49, 50, 51])]) Tryz.func35 rfl (by kernel_rfl) (by kernel_rfl) rfl ?_
 repeat' first
  | ((with_reducible refine eqg ?_); exact rfl)
  | ((with_reducible refine KOb.mk ?_); kernel_rfl)
  | ((with_reducible intro h); (repeat first | replace H := grd_k H | replace H := os1 H ‹_›); first | replace H := ct1 h H | replace H := cf1 h H | exact absurd h (by decide) | skip)
  | ((with_reducible refine Ob.mk ?_); first | (with_reducible rfl) | (first | ((repeat (first | (with_reducible exact grd_p H) | replace H := grd_k H | replace H := os1 H ‹_›)); done) | rfl | ((repeat (first | exact grd_p H | (have hp := grd_p H; exact hp) | replace H := grd_k H | replace H := os1 H ‹_› | (replace H := bind_some H; obtain ⟨_, _, H⟩ := H))); done) | (repeat (first | exact grd_p H | replace H := grd_k H | replace H := os1 H ‹_›))))
  | (with_reducible exact True.intro)
  | ((conv => whnf); first
      | (with_reducible refine And.intro ?_ ?_)
      | (with_reducible exact True.intro)
      | (with_reducible refine (?_ : Ob _))
      | ((with_reducible refine CallW.mk ?_); (repeat first | replace H := grd_k H | replace H := os1 H ‹_›); replace H := bind_some H; obtain ⟨y, hy, H⟩ := H; first | ((with_reducible have hz : slO1 _ = some y := hy); clear hz; refine ⟨_, _, slO1.call hy ?_, rfl, rfl, ?_⟩))
      | ((with_reducible refine fm ?_); (repeat first | replace H := grd_k H | replace H := os1 H ‹_›); have H := Option.some.inj H; subst H))
  | constructor
def G25 : Env := G24.add 35 [] slL.S
theorem G25_ok : EnvOk Tryz.prog G25 := G24_ok.add ent_35 fun ar h r h1 ⟨a0, y, hy, e1, e2, e3, e4⟩ => by
 subst e3 e4; exact (slL.spec a0 y hy).le e1 e2
attribute [local irreducible] slL

noncomputable def slG1 (a0 : C1) : Option (Bool) :=
 ((slG (a0.1.1, a0.1.2.1, a0.1.2.2.1, a0.1.2.2.2.1, a0.1.2.2.2.2.1, ())).bind fun y1 => (cond y1 ((slL (a0.2.1.1, a0.2.1.2.1, a0.2.1.2.2.1, ())).bind fun y2 => (some y2)) ((some false))))
def slG1.res (_ : C1) (y : Bool) : AV := (.bl y)
def slG1.out (_ : C1) (_ : Bool) : List (Option LB) := []
def slG1.S (ar : List AV) (h : List (Option LB)) (r : AV) (h1 : List (Option LB)) : Prop := ∃ a0 y, slG1 a0 = some y ∧ leL ar [(.agg [(.v (.int .i64 a0.1.1)), (.tree tS a0.1.2.1), (.v (.int .i64 a0.1.2.2.1)), (.v (.int .i64 a0.1.2.2.2.1)), (.v (.int .i64 a0.1.2.2.2.2.1)), (.v (.string a0.2.1.1)), (.v (.string a0.2.1.2.1)), (.v (.int .i64 a0.2.1.2.2.1))])] ∧ leH h [] ∧ r = slG1.res a0 y ∧ h1 = slG1.out a0 y
theorem slG1.call {ar h a0 y} (H : slG1 a0 = some y) (h0 : leLk ar [(.agg [(.v (.int .i64 a0.1.1)), (.tree tS a0.1.2.1), (.v (.int .i64 a0.1.2.2.1)), (.v (.int .i64 a0.1.2.2.2.1)), (.v (.int .i64 a0.1.2.2.2.2.1)), (.v (.string a0.2.1.1)), (.v (.string a0.2.1.2.1)), (.v (.int .i64 a0.2.1.2.2.1))])] (leHk h [])) : slG1.S ar h (slG1.res a0 y) (slG1.out a0 y) := ⟨a0, y, H, (ao h0).1, (ao h0).2, rfl, rfl⟩
theorem slG1.spec (a0 y) (H : slG1 a0 = some y) : Spec Tryz.prog 40 [(.agg [(.v (.int .i64 a0.1.1)), (.tree tS a0.1.2.1), (.v (.int .i64 a0.1.2.2.1)), (.v (.int .i64 a0.1.2.2.2.1)), (.v (.int .i64 a0.1.2.2.2.2.1)), (.v (.string a0.2.1.1)), (.v (.string a0.2.1.2.1)), (.v (.int .i64 a0.2.1.2.2.1))])] [] (slG1.res a0 y) (slG1.out a0 y) := by
 refine si (G25_ok.at tok []) (ct := []) Tryz.func40 rfl (by kernel_rfl) (by kernel_rfl) rfl ?_
 repeat' first
  | ((with_reducible refine eqg ?_); exact rfl)
  | ((with_reducible refine KOb.mk ?_); kernel_rfl)
  | ((with_reducible intro h); (repeat first | replace H := grd_k H | replace H := os1 H ‹_›); first | replace H := ct1 h H | replace H := cf1 h H | exact absurd h (by decide) | skip)
  | ((with_reducible refine Ob.mk ?_); first | (with_reducible rfl) | (first | ((repeat (first | (with_reducible exact grd_p H) | replace H := grd_k H | replace H := os1 H ‹_›)); done) | rfl | ((repeat (first | exact grd_p H | (have hp := grd_p H; exact hp) | replace H := grd_k H | replace H := os1 H ‹_› | (replace H := bind_some H; obtain ⟨_, _, H⟩ := H))); done) | (repeat (first | exact grd_p H | replace H := grd_k H | replace H := os1 H ‹_›))))
  | (with_reducible exact True.intro)
  | ((conv => whnf); first
      | (with_reducible refine And.intro ?_ ?_)
      | (with_reducible exact True.intro)
      | (with_reducible refine (?_ : Ob _))
      | ((with_reducible refine CallW.mk ?_); (repeat first | replace H := grd_k H | replace H := os1 H ‹_›); replace H := bind_some H; obtain ⟨y, hy, H⟩ := H; first | ((with_reducible have hz : slG _ = some y := hy); clear hz; refine ⟨_, _, slG.call hy ?_, rfl, rfl, ?_⟩) | ((with_reducible have hz : slL _ = some y := hy); clear hz; refine ⟨_, _, slL.call hy ?_, rfl, rfl, ?_⟩))
      | ((with_reducible refine fm ?_); (repeat first | replace H := grd_k H | replace H := os1 H ‹_›); have H := Option.some.inj H; subst H))
  | constructor
def G26 : Env := G25.add 40 [] slG1.S
theorem G26_ok : EnvOk Tryz.prog G26 := G25_ok.add ent_40 fun ar h r h1 ⟨a0, y, hy, e1, e2, e3, e4⟩ => by
 subst e3 e4; exact (slG1.spec a0 y hy).le e1 e2
attribute [local irreducible] slG1

noncomputable def slS3 (a0 : RS1) : Option (Bool) :=
 (cond (decide (a0.1 = (1 : Int))) ((slI a0.2.1 (0 : Int) (3 : Int)).bind fun y1 => (some y1)) ((cond (decide (a0.1 = (2 : Int))) ((some true)) ((some (decide (a0.1 = (4 : Int)))))).bind fun z2 => (cond z2 ((some (decide (a0.2.1 = (0 : Int))))) (cond (decide (a0.1 = (3 : Int))) ((slI a0.2.1 (1 : Int) (20 : Int)).bind fun y3 => (some y3)) ((slI a0.1 (5 : Int) (7 : Int)).bind fun y4 => (cond y4 ((slI a0.2.1 (0 : Int) (1 : Int)).bind fun y5 => (some y5)) ((some false))))))))
def slS3.res (_ : RS1) (y : Bool) : AV := (.bl y)
def slS3.out (_ : RS1) (_ : Bool) : List (Option LB) := []
def slS3.S (ar : List AV) (h : List (Option LB)) (r : AV) (h1 : List (Option LB)) : Prop := ∃ a0 y, slS3 a0 = some y ∧ leL ar [(.agg [(.v (.int .i64 a0.1)), (.v (.int .i64 a0.2.1))])] ∧ leH h [] ∧ r = slS3.res a0 y ∧ h1 = slS3.out a0 y
theorem slS3.call {ar h a0 y} (H : slS3 a0 = some y) (h0 : leLk ar [(.agg [(.v (.int .i64 a0.1)), (.v (.int .i64 a0.2.1))])] (leHk h [])) : slS3.S ar h (slS3.res a0 y) (slS3.out a0 y) := ⟨a0, y, H, (ao h0).1, (ao h0).2, rfl, rfl⟩
theorem slS3.spec (a0 y) (H : slS3 a0 = some y) : Spec Tryz.prog 170 [(.agg [(.v (.int .i64 a0.1)), (.v (.int .i64 a0.2.1))])] [] (slS3.res a0 y) (slS3.out a0 y) := by
 refine si (G26_ok.at tok []) (ct := [(6, none)]) Tryz.func170 rfl (by kernel_rfl) (by kernel_rfl) rfl ?_
 repeat' first
  | ((with_reducible refine eqg ?_); exact rfl)
  | ((with_reducible refine KOb.mk ?_); kernel_rfl)
  | ((with_reducible intro h); (repeat first | replace H := grd_k H | replace H := os1 H ‹_›); first | replace H := ct1 h H | replace H := cf1 h H | exact absurd h (by decide) | skip)
  | ((with_reducible refine Ob.mk ?_); first | (with_reducible rfl) | (first | ((repeat (first | (with_reducible exact grd_p H) | replace H := grd_k H | replace H := os1 H ‹_›)); done) | rfl | ((repeat (first | exact grd_p H | (have hp := grd_p H; exact hp) | replace H := grd_k H | replace H := os1 H ‹_› | (replace H := bind_some H; obtain ⟨_, _, H⟩ := H))); done) | (repeat (first | exact grd_p H | replace H := grd_k H | replace H := os1 H ‹_›))))
  | (with_reducible exact True.intro)
  | ((conv => whnf); first
      | (with_reducible refine And.intro ?_ ?_)
      | (with_reducible exact True.intro)
      | (with_reducible refine (?_ : Ob _))
      | ((with_reducible refine CallW.mk ?_); (repeat first | replace H := grd_k H | replace H := os1 H ‹_›); replace H := bind_some H; obtain ⟨y, hy, H⟩ := H; first | ((with_reducible have hz : slI _ _ _ = some y := hy); clear hz; refine ⟨_, _, slI.call hy ?_, rfl, rfl, ?_⟩))
      | ((with_reducible refine cutAt (id := 6) ?_); (repeat first | replace H := grd_k H | replace H := os1 H ‹_›); first | (replace H := bind_some H; obtain ⟨z, hz, H⟩ := H; refine CutC.mk (id := 6) ⟨sl [(1, (.loc 0 0 0)), (4, (.v (.int .i64 a0.1))), (10, (.bl z))], [some (.box 120 [(.v (.int .i64 a0.1)), (.v (.int .i64 a0.2.1))])]⟩ ?_ ?_; (replace H := hz)))
      | ((repeat first | replace H := grd_k H | replace H := os1 H ‹_›); have H := Option.some.inj H; subst H; with_reducible refine sa ?_)
      | ((with_reducible refine fm ?_); (repeat first | replace H := grd_k H | replace H := os1 H ‹_›); have H := Option.some.inj H; subst H))
  | constructor
def G27 : Env := G26.add 170 [] slS3.S
theorem G27_ok : EnvOk Tryz.prog G27 := G26_ok.add ent_170 fun ar h r h1 ⟨a0, y, hy, e1, e2, e3, e4⟩ => by
 subst e3 e4; exact (slS3.spec a0 y hy).le e1 e2
attribute [local irreducible] slS3

noncomputable def slOl (a0 : R1) (v3 : Int) (v4 : (List Int)) : Option (Lp (Int × (List Int)) (((List Int)))) :=
 (cond (decide (v3 < (a0.2.1.length : Int))) (grd (0 ≤ v3 ∧ v3 < (a0.2.1.length : Int)) (cond ((a0.2.1.getD v3.toNat dS).2.1) (grd (v4.length + [v3].length ≤ 140737488355328 / 8 ∧ v4.length + [v3].length ≤ 140737488355328) (some (.go ((w64 (v3 + (1 : Int))), (v4 ++ [v3]))))) (some (.go ((w64 (v3 + (1 : Int))), v4))))) ((some (.out v4))))
noncomputable def slO (a0 : R1) : Option ((List Int)) :=
 ((iter (fun s => slOl a0 s.1 s.2) ((0 : Int), ([] : List Int))).bind (fun r5 => (some r5)))
def slO.res (_ : R1) (_ : (List Int)) : AV := (.own 0)
def slO.out (_ : R1) (y : (List Int)) : List (Option LB) := [some (.arr 3 (.int .i64) y)]
def slO.S (ar : List AV) (h : List (Option LB)) (r : AV) (h1 : List (Option LB)) : Prop := ∃ a0 y, slO a0 = some y ∧ leL ar [(.agg [(.v (.int .i64 a0.1)), (.tree tS a0.2.1), (.v (.int .i64 a0.2.2.1)), (.v (.int .i64 a0.2.2.2.1)), (.v (.int .i64 a0.2.2.2.2.1))])] ∧ leH h [] ∧ r = slO.res a0 y ∧ h1 = slO.out a0 y
theorem slO.call {ar h a0 y} (H : slO a0 = some y) (h0 : leLk ar [(.agg [(.v (.int .i64 a0.1)), (.tree tS a0.2.1), (.v (.int .i64 a0.2.2.1)), (.v (.int .i64 a0.2.2.2.1)), (.v (.int .i64 a0.2.2.2.2.1))])] (leHk h [])) : slO.S ar h (slO.res a0 y) (slO.out a0 y) := ⟨a0, y, H, (ao h0).1, (ao h0).2, rfl, rfl⟩
theorem slO.spec (a0 y) (H : slO a0 = some y) : Spec Tryz.prog 117 [(.agg [(.v (.int .i64 a0.1)), (.tree tS a0.2.1), (.v (.int .i64 a0.2.2.1)), (.v (.int .i64 a0.2.2.2.1)), (.v (.int .i64 a0.2.2.2.2.1))])] [] (slO.res a0 y) (slO.out a0 y) := by
 refine si (G27_ok.at tok []) (ct := [(4, some [1, 3, 4])]) Tryz.func117 rfl (by kernel_rfl) (by kernel_rfl) rfl ?_
 repeat' first
  | ((with_reducible refine eqg ?_); exact rfl)
  | ((with_reducible refine KOb.mk ?_); kernel_rfl)
  | ((with_reducible intro h); (repeat first | replace H := grd_k H | replace H := os1 H ‹_›); first | replace H := ct1 h H | replace H := cf1 h H | exact absurd h (by decide) | skip)
  | ((with_reducible refine Ob.mk ?_); first | (with_reducible rfl) | (first | ((repeat (first | (with_reducible exact grd_p H) | replace H := grd_k H | replace H := os1 H ‹_›)); done) | rfl | ((repeat (first | exact grd_p H | (have hp := grd_p H; exact hp) | replace H := grd_k H | replace H := os1 H ‹_› | (replace H := bind_some H; obtain ⟨_, _, H⟩ := H))); done) | (repeat (first | exact grd_p H | replace H := grd_k H | replace H := os1 H ‹_›))))
  | (with_reducible exact True.intro)
  | ((conv => whnf); first
      | (with_reducible refine And.intro ?_ ?_)
      | (with_reducible exact True.intro)
      | (with_reducible refine (?_ : Ob _))
      | ((repeat first | replace H := grd_k H | replace H := os1 H ‹_›); refine li1 (G27_ok.at tok []) (ct := [(4, some [1, 3, 4])]) (F := (fun s1 : Int × (List Int) => ⟨sl [(1, (.loc 0 0 0)), (3, (.own 1)), (4, (.v (.int .i64 s1.1)))], [some (.box 38 [(.v (.int .i64 a0.1)), (.tree tS a0.2.1), (.v (.int .i64 a0.2.2.1)), (.v (.int .i64 a0.2.2.2.1)), (.v (.int .i64 a0.2.2.2.2.1))]), some (.arr 3 (.int .i64) s1.2)]⟩)) (step := (fun s : Int × (List Int) => slOl _ s.1 s.2)) _ H (by kernel_rfl) (sa ?_) ?_; rotate_left; (intro s1 r v hr H); rotate_right)
      | ((repeat first | replace H := grd_k H | replace H := os1 H ‹_›); refine as1 H (by assumption) (sa ?_))
      | ((with_reducible refine fm ?_); (repeat first | replace H := grd_k H | replace H := os1 H ‹_›); have H := Option.some.inj H; subst H))
  | constructor
def G28 : Env := G27.add 117 [] slO.S
theorem G28_ok : EnvOk Tryz.prog G28 := G27_ok.add ent_117 fun ar h r h1 ⟨a0, y, hy, e1, e2, e3, e4⟩ => by
 subst e3 e4; exact (slO.spec a0 y hy).le e1 e2
attribute [local irreducible] slO

noncomputable def slFl (a0 : R1) (a1 : Int) (v2 : Int) : Option (Lp (Int) ((Int) ⊕ (Unit))) :=
 (cond (decide (v2 < (a0.2.1.length : Int))) (grd (0 ≤ v2 ∧ v2 < (a0.2.1.length : Int)) (cond (decide (((a0.2.1.getD v2.toNat dS).1) = a1)) ((some (.out (Sum.inl v2)))) (some (.go (w64 (v2 + (1 : Int))))))) ((some (.out (Sum.inr ())))))
noncomputable def slF (a0 : R1) (a1 : Int) : Option (Int) :=
 ((iter (fun s => slFl a0 a1 s) (0 : Int)).bind (Sum.elim (fun r4 => (some r4)) (fun _ => (some ((-1) : Int)))))
def slF.res (_ : R1) (_ : Int) (y : Int) : AV := (.v (.int .i64 y))
def slF.out (_ : R1) (_ : Int) (_ : Int) : List (Option LB) := []
def slF.S (ar : List AV) (h : List (Option LB)) (r : AV) (h1 : List (Option LB)) : Prop := ∃ a0 a1 y, slF a0 a1 = some y ∧ leL ar [(.agg [(.v (.int .i64 a0.1)), (.tree tS a0.2.1), (.v (.int .i64 a0.2.2.1)), (.v (.int .i64 a0.2.2.2.1)), (.v (.int .i64 a0.2.2.2.2.1))]), (.v (.int .i64 a1))] ∧ leH h [] ∧ r = slF.res a0 a1 y ∧ h1 = slF.out a0 a1 y
theorem slF.call {ar h a0 a1 y} (H : slF a0 a1 = some y) (h0 : leLk ar [(.agg [(.v (.int .i64 a0.1)), (.tree tS a0.2.1), (.v (.int .i64 a0.2.2.1)), (.v (.int .i64 a0.2.2.2.1)), (.v (.int .i64 a0.2.2.2.2.1))]), (.v (.int .i64 a1))] (leHk h [])) : slF.S ar h (slF.res a0 a1 y) (slF.out a0 a1 y) := ⟨a0, a1, y, H, (ao h0).1, (ao h0).2, rfl, rfl⟩
theorem slF.spec (a0 a1 y) (H : slF a0 a1 = some y) : Spec Tryz.prog 154 [(.agg [(.v (.int .i64 a0.1)), (.tree tS a0.2.1), (.v (.int .i64 a0.2.2.1)), (.v (.int .i64 a0.2.2.2.1)), (.v (.int .i64 a0.2.2.2.2.1))]), (.v (.int .i64 a1))] [] (slF.res a0 a1 y) (slF.out a0 a1 y) := by
 refine si (G28_ok.at tok []) (ct := [(3, some [1, 2, 5])]) Tryz.func154 rfl (by kernel_rfl) (by kernel_rfl) rfl ?_
 repeat' first
  | ((with_reducible refine eqg ?_); exact rfl)
  | ((with_reducible refine KOb.mk ?_); kernel_rfl)
  | ((with_reducible intro h); (repeat first | replace H := grd_k H | replace H := os1 H ‹_›); first | replace H := ct1 h H | replace H := cf1 h H | exact absurd h (by decide) | skip)
  | ((with_reducible refine Ob.mk ?_); first | (with_reducible rfl) | (first | ((repeat (first | (with_reducible exact grd_p H) | replace H := grd_k H | replace H := os1 H ‹_›)); done) | rfl | ((repeat (first | exact grd_p H | (have hp := grd_p H; exact hp) | replace H := grd_k H | replace H := os1 H ‹_› | (replace H := bind_some H; obtain ⟨_, _, H⟩ := H))); done) | (repeat (first | exact grd_p H | replace H := grd_k H | replace H := os1 H ‹_›))))
  | (with_reducible exact True.intro)
  | ((conv => whnf); first
      | (with_reducible refine And.intro ?_ ?_)
      | (with_reducible exact True.intro)
      | (with_reducible refine (?_ : Ob _))
      | ((repeat first | replace H := grd_k H | replace H := os1 H ‹_›); refine li1 (G28_ok.at tok []) (ct := [(3, some [1, 2, 5])]) (F := (fun s1 : Int => ⟨sl [(1, (.v (.int .i64 a1))), (2, (.loc 0 0 0)), (5, (.v (.int .i64 s1)))], [some (.box 38 [(.v (.int .i64 a0.1)), (.tree tS a0.2.1), (.v (.int .i64 a0.2.2.1)), (.v (.int .i64 a0.2.2.2.1)), (.v (.int .i64 a0.2.2.2.2.1))])]⟩)) (step := (fun s : Int => slFl _ _ s)) _ H (by kernel_rfl) (sa ?_) ?_; rotate_left; (intro s1 r v hr H); rotate_right)
      | ((repeat first | replace H := grd_k H | replace H := os1 H ‹_›); refine as1 H (by assumption) (sa ?_))
      | ((with_reducible refine fm ?_); (repeat first | replace H := grd_k H | replace H := os1 H ‹_›); have H := Option.some.inj H; subst H))
  | constructor
def G29 : Env := G28.add 154 [] slF.S
theorem G29_ok : EnvOk Tryz.prog G29 := G28_ok.add ent_154 fun ar h r h1 ⟨a0, a1, y, hy, e1, e2, e3, e4⟩ => by
 subst e3 e4; exact (slF.spec a0 a1 y hy).le e1 e2
attribute [local irreducible] slF

noncomputable def slRl1 (a0 : R1) (v18 : Int) (v19 : Int) (v20 : Int) (v21 : Int) (v22 : Int) (v23 : (List Slot)) : Option (Lp (Int × Int × Int × Int × Int × (List Slot)) ((Int × Int × Int × Int × (List Slot)))) :=
 (cond (decide (v18 < (a0.2.1.length : Int))) (grd ((a0.2.1.length : Int) ≠ 0) (grd (0 ≤ v18 ∧ v18 < (a0.2.1.length : Int)) (grd (0 ≤ (Int.tmod (w64 (v18 + (1 : Int))) (a0.2.1.length : Int)) ∧ (Int.tmod (w64 (v18 + (1 : Int))) (a0.2.1.length : Int)) < (v23.length : Int)) (some (.go ((w64 (v18 + (1 : Int))), v19, v20, v21, v22, (v23.set ((Int.tmod (w64 (v18 + (1 : Int))) (a0.2.1.length : Int)).toNat) ((a0.2.1.getD v18.toNat dS).1, (a0.2.1.getD v18.toNat dS).2.1, (a0.2.1.getD v18.toNat dS).2.2.1, ())))))))) ((some (.out (v19, v20, v21, v22, v23)))))
noncomputable def slR1 (a0 : R1) (a1 : RS1) : Option (R1 × Bool) :=
 ((slO2 (a0.1, a0.2.1, a0.2.2.1, a0.2.2.2.1, a0.2.2.2.2.1, ())).bind fun y1 => (cond (decide (a1.1 = (1 : Int))) (cond (decide (a1.2.1 = a0.1)) ((some ((a1.2.1, y1.2.1, y1.2.2.1, y1.2.2.2.1, y1.2.2.2.2.1, ()), false))) (cond (decide (a0.1 = (3 : Int))) (cond (!decide (a1.2.1 = (0 : Int))) ((some ((a1.2.1, y1.2.1, y1.2.2.1, y1.2.2.2.1, y1.2.2.2.2.1, ()), false))) (cond (!decide (a1.2.1 = (2 : Int))) ((some ((a1.2.1, y1.2.1, y1.2.2.1, y1.2.2.2.1, y1.2.2.2.2.1, ()), true))) ((some ((a1.2.1, y1.2.1, y1.2.2.1, y1.2.2.2.1, y1.2.2.2.2.1, ()), (decide (a0.1 = (1 : Int)))))))) (cond (!decide (a1.2.1 = (2 : Int))) ((some ((a1.2.1, y1.2.1, y1.2.2.1, y1.2.2.2.1, y1.2.2.2.2.1, ()), true))) ((some ((a1.2.1, y1.2.1, y1.2.2.1, y1.2.2.2.1, y1.2.2.2.2.1, ()), (decide (a0.1 = (1 : Int))))))))) (cond (decide (a1.1 = (2 : Int))) ((iter (fun s => slRl1 a0 s.1 s.2.1 s.2.2.1 s.2.2.2.1 s.2.2.2.2.1 s.2.2.2.2.2) ((0 : Int), y1.1, y1.2.2.1, y1.2.2.2.1, y1.2.2.2.2.1, y1.2.1)).bind (fun r24 => (cond (decide (a0.1 = (1 : Int))) ((slO (a0.1, a0.2.1, a0.2.2.1, a0.2.2.2.1, a0.2.2.2.2.1, ())).bind fun y25 => (some ((r24.1, r24.2.2.2.2, r24.2.1, r24.2.2.1, r24.2.2.2.1, ()), (decide ((y25.length : Int) = (0 : Int)))))) (cond (decide (a0.1 = (2 : Int))) ((slO (a0.1, a0.2.1, a0.2.2.1, a0.2.2.2.1, a0.2.2.2.2.1, ())).bind fun y26 => (some ((r24.1, r24.2.2.2.2, r24.2.1, r24.2.2.1, r24.2.2.2.1, ()), (decide ((y26.length : Int) = (0 : Int)))))) ((some ((r24.1, r24.2.2.2.2, r24.2.1, r24.2.2.1, r24.2.2.2.1, ()), false))))))) (cond (decide (a1.1 = (3 : Int))) (grd (0 ≤ (0 : Int) ∧ (0 : Int) < (y1.2.1.length : Int)) (cond (decide (a0.1 = (0 : Int))) (grd (0 ≤ (0 : Int) ∧ (0 : Int) < (a0.2.1.length : Int)) (cond (decide (((a0.2.1.getD ((0 : Int).toNat) dS).1) = (0 : Int))) ((slF (a0.1, a0.2.1, a0.2.2.1, a0.2.2.2.1, a0.2.2.2.2.1, ()) a1.2.1).bind fun y27 => (some ((y1.1, (y1.2.1.set ((0 : Int).toNat) (a1.2.1, false, (0 : Int), ())), y1.2.2.1, y1.2.2.2.1, y1.2.2.2.2.1, ()), (decide (y27 < (0 : Int)))))) ((some ((y1.1, (y1.2.1.set ((0 : Int).toNat) (a1.2.1, false, (0 : Int), ())), y1.2.2.1, y1.2.2.2.1, y1.2.2.2.2.1, ()), false))))) ((some ((y1.1, (y1.2.1.set ((0 : Int).toNat) (a1.2.1, false, (0 : Int), ())), y1.2.2.1, y1.2.2.2.1, y1.2.2.2.2.1, ()), false))))) (grd (0 ≤ (0 : Int) ∧ (0 : Int) < (y1.2.1.length : Int)) (cond (decide (a0.1 = (0 : Int))) (grd (0 ≤ (0 : Int) ∧ (0 : Int) < (a0.2.1.length : Int)) (cond (decide ((0 : Int) < ((a0.2.1.getD ((0 : Int).toNat) dS).1))) (grd (0 ≤ (0 : Int) ∧ (0 : Int) < (a0.2.1.length : Int)) ((some ((y1.1, (y1.2.1.set ((0 : Int).toNat) ((0 : Int), false, (0 : Int), ())), y1.2.2.1, y1.2.2.2.1, y1.2.2.2.2.1, ()), (decide (((a0.2.1.getD ((0 : Int).toNat) dS).2.2.1) = (0 : Int))))))) ((some ((y1.1, (y1.2.1.set ((0 : Int).toNat) ((0 : Int), false, (0 : Int), ())), y1.2.2.1, y1.2.2.2.1, y1.2.2.2.2.1, ()), false))))) ((some ((y1.1, (y1.2.1.set ((0 : Int).toNat) ((0 : Int), false, (0 : Int), ())), y1.2.2.1, y1.2.2.2.1, y1.2.2.2.2.1, ()), false)))))))))
def slR1.res (_ : R1) (_ : RS1) (y : R1 × Bool) : AV := (.tup [(.agg [(.v (.int .i64 y.1.1)), (.own 0), (.v (.int .i64 y.1.2.2.1)), (.v (.int .i64 y.1.2.2.2.1)), (.v (.int .i64 y.1.2.2.2.2.1))]), (.bl y.2)])
def slR1.out (_ : R1) (_ : RS1) (y : R1 × Bool) : List (Option LB) := [some (.arr 96 tS y.1.2.1)]
def slR1.S (ar : List AV) (h : List (Option LB)) (r : AV) (h1 : List (Option LB)) : Prop := ∃ a0 a1 y, slR1 a0 a1 = some y ∧ leL ar [(.agg [(.v (.int .i64 a0.1)), (.tree tS a0.2.1), (.v (.int .i64 a0.2.2.1)), (.v (.int .i64 a0.2.2.2.1)), (.v (.int .i64 a0.2.2.2.2.1))]), (.agg [(.v (.int .i64 a1.1)), (.v (.int .i64 a1.2.1))])] ∧ leH h [] ∧ r = slR1.res a0 a1 y ∧ h1 = slR1.out a0 a1 y
theorem slR1.call {ar h a0 a1 y} (H : slR1 a0 a1 = some y) (h0 : leLk ar [(.agg [(.v (.int .i64 a0.1)), (.tree tS a0.2.1), (.v (.int .i64 a0.2.2.1)), (.v (.int .i64 a0.2.2.2.1)), (.v (.int .i64 a0.2.2.2.2.1))]), (.agg [(.v (.int .i64 a1.1)), (.v (.int .i64 a1.2.1))])] (leHk h [])) : slR1.S ar h (slR1.res a0 a1 y) (slR1.out a0 a1 y) := ⟨a0, a1, y, H, (ao h0).1, (ao h0).2, rfl, rfl⟩
theorem slR1.spec (a0 a1 y) (H : slR1 a0 a1 = some y) : Spec Tryz.prog 196 [(.agg [(.v (.int .i64 a0.1)), (.tree tS a0.2.1), (.v (.int .i64 a0.2.2.1)), (.v (.int .i64 a0.2.2.2.1)), (.v (.int .i64 a0.2.2.2.2.1))]), (.agg [(.v (.int .i64 a1.1)), (.v (.int .i64 a1.2.1))])] [] (slR1.res a0 a1 y) (slR1.out a0 a1 y) := by
 refine si (G29_ok.at tok []) (ct := [(5, some [2, 3, 4, 6, 24, 25, 26, 27, 28, 29, 30, 31, 39, 40, 41]), (6, some [2, 3, 4, 6, 32, 39, 40, 41]), (10, some [2, 4, 6, 7, 70, 71, 72, 75, 76, 77, 78]), (12, some [2, 4, 6, 7, 8, 70, 71, 72, 75, 76, 77, 78]), (16, some [2, 3, 4, 6, 80, 93, 94, 95, 96, 97, 98, 101, 102, 103, 104, 105, 116, 117, 118, 119, 120, 121, 124, 125, 126, 127, 128, 129]), (18, some [2, 4, 6, 116, 117, 118, 119, 120, 121, 124, 125, 126, 127, 128, 129])]) Tryz.func196 rfl (by kernel_rfl) (by kernel_rfl) rfl ?_
 repeat' first
  | ((with_reducible refine eqg ?_); exact rfl)
  | ((with_reducible refine KOb.mk ?_); kernel_rfl)
  | ((with_reducible intro h); (repeat first | replace H := grd_k H | replace H := os1 H ‹_›); first | replace H := ct1 h H | replace H := cf1 h H | exact absurd h (by decide) | skip)
  | ((with_reducible refine Ob.mk ?_); first | (with_reducible rfl) | (first | ((repeat (first | (with_reducible exact grd_p H) | replace H := grd_k H | replace H := os1 H ‹_›)); done) | rfl | ((repeat (first | exact grd_p H | (have hp := grd_p H; exact hp) | replace H := grd_k H | replace H := os1 H ‹_› | (replace H := bind_some H; obtain ⟨_, _, H⟩ := H))); done) | (repeat (first | exact grd_p H | replace H := grd_k H | replace H := os1 H ‹_›))))
  | (with_reducible exact True.intro)
  | ((conv => whnf); first
      | (with_reducible refine And.intro ?_ ?_)
      | (with_reducible exact True.intro)
      | (with_reducible refine (?_ : Ob _))
      | ((with_reducible refine CallW.mk ?_); (repeat first | replace H := grd_k H | replace H := os1 H ‹_›); replace H := bind_some H; obtain ⟨y, hy, H⟩ := H; first | ((with_reducible have hz : slO2 _ = some y := hy); clear hz; refine ⟨_, _, slO2.call hy ?_, rfl, rfl, ?_⟩) | ((with_reducible have hz : slO _ = some y := hy); clear hz; refine ⟨_, _, slO.call hy ?_, rfl, rfl, ?_⟩) | ((with_reducible have hz : slF _ _ = some y := hy); clear hz; refine ⟨_, _, slF.call hy ?_, rfl, rfl, ?_⟩))
      | ((repeat first | replace H := grd_k H | replace H := os1 H ‹_›); refine li1 (G29_ok.at tok []) (ct := [(5, some [2, 3, 4, 6, 24, 25, 26, 27, 28, 29, 30, 31, 39, 40, 41]), (6, some [2, 3, 4, 6, 32, 39, 40, 41]), (10, some [2, 4, 6, 7, 70, 71, 72, 75, 76, 77, 78]), (12, some [2, 4, 6, 7, 8, 70, 71, 72, 75, 76, 77, 78]), (16, some [2, 3, 4, 6, 80, 93, 94, 95, 96, 97, 98, 101, 102, 103, 104, 105, 116, 117, 118, 119, 120, 121, 124, 125, 126, 127, 128, 129]), (18, some [2, 4, 6, 116, 117, 118, 119, 120, 121, 124, 125, 126, 127, 128, 129])]) (F := (fun s1 : Int × Int × Int × Int × Int × (List Slot) => ⟨sl [(2, (.loc 0 0 0)), (4, (.loc 1 0 0)), (6, (.loc 2 0 0)), (7, (.v (.int .i64 (a0.2.1.length : Int)))), (8, (.v (.int .i64 s1.1)))], [some (.box 38 [(.v (.int .i64 a0.1)), (.tree tS a0.2.1), (.v (.int .i64 a0.2.2.1)), (.v (.int .i64 a0.2.2.2.1)), (.v (.int .i64 a0.2.2.2.2.1))]), some (.box 38 [(.v (.int .i64 (0 : Int))), (.v (.slice none 0 0)), (.v (.int .i64 (0 : Int))), (.v (.int .i64 (0 : Int))), (.v (.int .i64 (0 : Int)))]), some (.box 38 [(.v (.int .i64 s1.2.1)), (.own 3), (.v (.int .i64 s1.2.2.1)), (.v (.int .i64 s1.2.2.2.1)), (.v (.int .i64 s1.2.2.2.2.1))]), some (.arr 96 tS s1.2.2.2.2.2)]⟩)) (step := (fun s : Int × Int × Int × Int × Int × (List Slot) => slRl1 _ s.1 s.2.1 s.2.2.1 s.2.2.2.1 s.2.2.2.2.1 s.2.2.2.2.2)) _ H (by kernel_rfl) (sa ?_) ?_; rotate_left; (intro s1 r v hr H); rotate_right)
      | ((repeat first | replace H := grd_k H | replace H := os1 H ‹_›); refine as1 H (by assumption) (sa ?_))
      | ((with_reducible refine fm ?_); (repeat first | replace H := grd_k H | replace H := os1 H ‹_›); have H := Option.some.inj H; subst H))
  | constructor
def G30 : Env := G29.add 196 [] slR1.S
theorem G30_ok : EnvOk Tryz.prog G30 := G29_ok.add ent_196 fun ar h r h1 ⟨a0, a1, y, hy, e1, e2, e3, e4⟩ => by
 subst e3 e4; exact (slR1.spec a0 a1 y hy).le e1 e2
attribute [local irreducible] slR1

end Go.Proofs.YtaobinhdnklojaaGreatDoor
namespace Go.Proofs.YtaobinhdnklojaaGreatDoor
open Go.RowKit
set_option maxHeartbeats 100000000
set_option maxRecDepth 100000
attribute [local irreducible] Ob l5 Sub Spec Fin Again CallW CutC KOb iter

attribute [local irreducible] slO2 slG slN slNf slS3 slR1

noncomputable def slS1 (a0 : R1) (a1 : Int) : Option (Int) :=
 (grd ((2 : Int) ≠ 0) ((some (w64 (Int.tdiv (w64 (a1 * (a0.2.1.length : Int))) (2 : Int))))))
def slS1.res (_ : R1) (_ : Int) (y : Int) : AV := (.v (.int .i64 y))
def slS1.out (_ : R1) (_ : Int) (_ : Int) : List (Option LB) := []
def slS1.S (ar : List AV) (h : List (Option LB)) (r : AV) (h1 : List (Option LB)) : Prop := ∃ a0 a1 y, slS1 a0 a1 = some y ∧ leL ar [(.agg [(.v (.int .i64 a0.1)), (.tree tS a0.2.1), (.v (.int .i64 a0.2.2.1)), (.v (.int .i64 a0.2.2.2.1)), (.v (.int .i64 a0.2.2.2.2.1))]), (.v (.int .i64 a1))] ∧ leH h [] ∧ r = slS1.res a0 a1 y ∧ h1 = slS1.out a0 a1 y
theorem slS1.call {ar h a0 a1 y} (H : slS1 a0 a1 = some y) (h0 : leLk ar [(.agg [(.v (.int .i64 a0.1)), (.tree tS a0.2.1), (.v (.int .i64 a0.2.2.1)), (.v (.int .i64 a0.2.2.2.1)), (.v (.int .i64 a0.2.2.2.2.1))]), (.v (.int .i64 a1))] (leHk h [])) : slS1.S ar h (slS1.res a0 a1 y) (slS1.out a0 a1 y) := ⟨a0, a1, y, H, (ao h0).1, (ao h0).2, rfl, rfl⟩
theorem slS1.spec (a0 a1 y) (H : slS1 a0 a1 = some y) : Spec Tryz.prog 153 [(.agg [(.v (.int .i64 a0.1)), (.tree tS a0.2.1), (.v (.int .i64 a0.2.2.1)), (.v (.int .i64 a0.2.2.2.1)), (.v (.int .i64 a0.2.2.2.2.1))]), (.v (.int .i64 a1))] [] (slS1.res a0 a1 y) (slS1.out a0 a1 y) := by
 refine si (G30_ok.at tok []) (ct := []) Tryz.func153 rfl (by kernel_rfl) (by kernel_rfl) rfl ?_
 repeat' first
  | ((with_reducible refine eqg ?_); exact rfl)
  | ((with_reducible refine KOb.mk ?_); kernel_rfl)
  | ((with_reducible intro h); (repeat first | replace H := grd_k H | replace H := os1 H ‹_›); first | replace H := ct1 h H | replace H := cf1 h H | exact absurd h (by decide) | skip)
  | ((with_reducible refine Ob.mk ?_); first | (with_reducible rfl) | (first | ((repeat (first | (with_reducible exact grd_p H) | replace H := grd_k H | replace H := os1 H ‹_›)); done) | rfl | ((repeat (first | exact grd_p H | (have hp := grd_p H; exact hp) | replace H := grd_k H | replace H := os1 H ‹_› | (replace H := bind_some H; obtain ⟨_, _, H⟩ := H))); done) | (repeat (first | exact grd_p H | replace H := grd_k H | replace H := os1 H ‹_›))))
  | (with_reducible exact True.intro)
  | ((conv => whnf); first
      | (with_reducible refine And.intro ?_ ?_)
      | (with_reducible exact True.intro)
      | (with_reducible refine (?_ : Ob _))
      | ((with_reducible refine fm ?_); (repeat first | replace H := grd_k H | replace H := os1 H ‹_›); have H := Option.some.inj H; subst H))
  | constructor
def G31 : Env := G30.add 153 [] slS1.S
theorem G31_ok : EnvOk Tryz.prog G31 := G30_ok.add ent_153 fun ar h r h1 ⟨a0, a1, y, hy, e1, e2, e3, e4⟩ => by
 subst e3 e4; exact (slS1.spec a0 a1 y hy).le e1 e2
attribute [local irreducible] slS1

noncomputable def slP (a0 : R1) (a1 : RS1) : Option (R1 × Bool) :=
 ((slO2 (a0.1, a0.2.1, a0.2.2.1, a0.2.2.2.1, a0.2.2.2.2.1, ())).bind fun y1 => ((slS1 (a0.1, a0.2.1, a0.2.2.1, a0.2.2.2.1, a0.2.2.2.2.1, ()) a1.2.1).bind fun y2 => (grd (0 ≤ y2 ∧ y2 < (a0.2.1.length : Int)) (cond (decide (a1.1 = (7 : Int))) (cond (decide ((0 : Int) < ((a0.2.1.getD y2.toNat dS).1))) (grd (0 ≤ y2 ∧ y2 < (y1.2.1.length : Int)) ((some ((y1.1, (y1.2.1.set y2.toNat ((a0.2.1.getD y2.toNat dS).1, (!((a0.2.1.getD y2.toNat dS).2.1)), (a0.2.1.getD y2.toNat dS).2.2.1, ())), y1.2.2.1, y1.2.2.2.1, y1.2.2.2.2.1, ()), (!decide (a0.1 = (2 : Int))))))) (grd (0 ≤ y2 ∧ y2 < (y1.2.1.length : Int)) ((some ((y1.1, (y1.2.1.set y2.toNat ((a0.2.1.getD y2.toNat dS).1, (!((a0.2.1.getD y2.toNat dS).2.1)), (a0.2.1.getD y2.toNat dS).2.2.1, ())), y1.2.2.1, y1.2.2.2.1, y1.2.2.2.2.1, ()), false))))) (cond (decide (a1.1 = (5 : Int))) ((cond (decide ((0 : Int) < ((a0.2.1.getD y2.toNat dS).1))) (cond ((a0.2.1.getD y2.toNat dS).2.1) ((some (y2, (decide (((a0.2.1.getD y2.toNat dS).2.2.1) < (8 : Int))), y1.1, y1.2.2.1, y1.2.2.2.1, y1.2.2.2.2.1, ((a0.2.1.getD y2.toNat dS).1), ((a0.2.1.getD y2.toNat dS).2.1), ((a0.2.1.getD y2.toNat dS).2.2.1), y1.2.1))) ((some (y2, false, y1.1, y1.2.2.1, y1.2.2.2.1, y1.2.2.2.2.1, ((a0.2.1.getD y2.toNat dS).1), ((a0.2.1.getD y2.toNat dS).2.1), ((a0.2.1.getD y2.toNat dS).2.2.1), y1.2.1)))) ((some (y2, false, y1.1, y1.2.2.1, y1.2.2.2.1, y1.2.2.2.2.1, ((a0.2.1.getD y2.toNat dS).1), ((a0.2.1.getD y2.toNat dS).2.1), ((a0.2.1.getD y2.toNat dS).2.2.1), y1.2.1)))).bind fun z3 => (cond (decide (a1.2.1 = (0 : Int))) (cond z3.2.1 (cond (decide ((0 : Int) < a0.2.2.1)) (grd (0 ≤ z3.1 ∧ z3.1 < (z3.2.2.2.2.2.2.2.2.2.length : Int)) ((some ((z3.2.2.1, (z3.2.2.2.2.2.2.2.2.2.set z3.1.toNat (z3.2.2.2.2.2.2.1, z3.2.2.2.2.2.2.2.1, (w64 (z3.2.2.2.2.2.2.2.2.1 + (1 : Int))), ())), (w64 (a0.2.2.1 - (1 : Int))), z3.2.2.2.2.1, z3.2.2.2.2.2.1, ()), (!decide (a0.1 = (3 : Int))))))) (grd (0 ≤ z3.1 ∧ z3.1 < (z3.2.2.2.2.2.2.2.2.2.length : Int)) ((some ((z3.2.2.1, (z3.2.2.2.2.2.2.2.2.2.set z3.1.toNat (z3.2.2.2.2.2.2.1, z3.2.2.2.2.2.2.2.1, (w64 (z3.2.2.2.2.2.2.2.2.1 + (1 : Int))), ())), (w64 (a0.2.2.1 - (1 : Int))), z3.2.2.2.2.1, z3.2.2.2.2.2.1, ()), false))))) (grd (0 ≤ z3.1 ∧ z3.1 < (z3.2.2.2.2.2.2.2.2.2.length : Int)) ((some ((z3.2.2.1, (z3.2.2.2.2.2.2.2.2.2.set z3.1.toNat (z3.2.2.2.2.2.2.1, z3.2.2.2.2.2.2.2.1, (w64 (z3.2.2.2.2.2.2.2.2.1 + (1 : Int))), ())), (w64 (a0.2.2.1 - (1 : Int))), z3.2.2.2.2.1, z3.2.2.2.2.2.1, ()), false))))) (cond z3.2.1 (grd (0 ≤ z3.1 ∧ z3.1 < (z3.2.2.2.2.2.2.2.2.2.length : Int)) ((some ((z3.2.2.1, (z3.2.2.2.2.2.2.2.2.2.set z3.1.toNat (z3.2.2.2.2.2.2.1, z3.2.2.2.2.2.2.2.1, (w64 (z3.2.2.2.2.2.2.2.2.1 + (1 : Int))), ())), z3.2.2.2.1, (w64 (a0.2.2.2.1 - (1 : Int))), z3.2.2.2.2.2.1, ()), (decide ((0 : Int) < a0.2.2.2.1)))))) (grd (0 ≤ z3.1 ∧ z3.1 < (z3.2.2.2.2.2.2.2.2.2.length : Int)) ((some ((z3.2.2.1, (z3.2.2.2.2.2.2.2.2.2.set z3.1.toNat (z3.2.2.2.2.2.2.1, z3.2.2.2.2.2.2.2.1, (w64 (z3.2.2.2.2.2.2.2.2.1 + (1 : Int))), ())), z3.2.2.2.1, (w64 (a0.2.2.2.1 - (1 : Int))), z3.2.2.2.2.2.1, ()), false))))))) (cond (decide ((0 : Int) < ((a0.2.1.getD y2.toNat dS).1))) (cond ((a0.2.1.getD y2.toNat dS).2.1) (cond (decide (a1.2.1 = (0 : Int))) (grd (0 ≤ y2 ∧ y2 < (y1.2.1.length : Int)) ((some ((y1.1, (y1.2.1.set y2.toNat ((a0.2.1.getD y2.toNat dS).1, (a0.2.1.getD y2.toNat dS).2.1, (w64 (((a0.2.1.getD y2.toNat dS).2.2.1) - (1 : Int))), ())), y1.2.2.1, y1.2.2.2.1, (w64 (a0.2.2.2.2.1 + (1 : Int))), ()), (decide ((0 : Int) < ((a0.2.1.getD y2.toNat dS).2.2.1))))))) (grd (0 ≤ y2 ∧ y2 < (y1.2.1.length : Int)) ((some ((y1.1, (y1.2.1.set y2.toNat ((a0.2.1.getD y2.toNat dS).1, (a0.2.1.getD y2.toNat dS).2.1, (w64 (((a0.2.1.getD y2.toNat dS).2.2.1) - (1 : Int))), ())), y1.2.2.1, (w64 (a0.2.2.2.1 + (1 : Int))), y1.2.2.2.2.1, ()), (decide ((0 : Int) < ((a0.2.1.getD y2.toNat dS).2.2.1)))))))) (cond (decide (a1.2.1 = (0 : Int))) (grd (0 ≤ y2 ∧ y2 < (y1.2.1.length : Int)) ((some ((y1.1, (y1.2.1.set y2.toNat ((a0.2.1.getD y2.toNat dS).1, (a0.2.1.getD y2.toNat dS).2.1, (w64 (((a0.2.1.getD y2.toNat dS).2.2.1) - (1 : Int))), ())), y1.2.2.1, y1.2.2.2.1, (w64 (a0.2.2.2.2.1 + (1 : Int))), ()), false)))) (grd (0 ≤ y2 ∧ y2 < (y1.2.1.length : Int)) ((some ((y1.1, (y1.2.1.set y2.toNat ((a0.2.1.getD y2.toNat dS).1, (a0.2.1.getD y2.toNat dS).2.1, (w64 (((a0.2.1.getD y2.toNat dS).2.2.1) - (1 : Int))), ())), y1.2.2.1, (w64 (a0.2.2.2.1 + (1 : Int))), y1.2.2.2.2.1, ()), false)))))) (cond (decide (a1.2.1 = (0 : Int))) (grd (0 ≤ y2 ∧ y2 < (y1.2.1.length : Int)) ((some ((y1.1, (y1.2.1.set y2.toNat ((a0.2.1.getD y2.toNat dS).1, (a0.2.1.getD y2.toNat dS).2.1, (w64 (((a0.2.1.getD y2.toNat dS).2.2.1) - (1 : Int))), ())), y1.2.2.1, y1.2.2.2.1, (w64 (a0.2.2.2.2.1 + (1 : Int))), ()), false)))) (grd (0 ≤ y2 ∧ y2 < (y1.2.1.length : Int)) ((some ((y1.1, (y1.2.1.set y2.toNat ((a0.2.1.getD y2.toNat dS).1, (a0.2.1.getD y2.toNat dS).2.1, (w64 (((a0.2.1.getD y2.toNat dS).2.2.1) - (1 : Int))), ())), y1.2.2.1, (w64 (a0.2.2.2.1 + (1 : Int))), y1.2.2.2.2.1, ()), false)))))))))))
def slP.res (_ : R1) (_ : RS1) (y : R1 × Bool) : AV := (.tup [(.agg [(.v (.int .i64 y.1.1)), (.own 0), (.v (.int .i64 y.1.2.2.1)), (.v (.int .i64 y.1.2.2.2.1)), (.v (.int .i64 y.1.2.2.2.2.1))]), (.bl y.2)])
def slP.out (_ : R1) (_ : RS1) (y : R1 × Bool) : List (Option LB) := [some (.arr 96 tS y.1.2.1)]
def slP.S (ar : List AV) (h : List (Option LB)) (r : AV) (h1 : List (Option LB)) : Prop := ∃ a0 a1 y, slP a0 a1 = some y ∧ leL ar [(.agg [(.v (.int .i64 a0.1)), (.tree tS a0.2.1), (.v (.int .i64 a0.2.2.1)), (.v (.int .i64 a0.2.2.2.1)), (.v (.int .i64 a0.2.2.2.2.1))]), (.agg [(.v (.int .i64 a1.1)), (.v (.int .i64 a1.2.1))])] ∧ leH h [] ∧ r = slP.res a0 a1 y ∧ h1 = slP.out a0 a1 y
theorem slP.call {ar h a0 a1 y} (H : slP a0 a1 = some y) (h0 : leLk ar [(.agg [(.v (.int .i64 a0.1)), (.tree tS a0.2.1), (.v (.int .i64 a0.2.2.1)), (.v (.int .i64 a0.2.2.2.1)), (.v (.int .i64 a0.2.2.2.2.1))]), (.agg [(.v (.int .i64 a1.1)), (.v (.int .i64 a1.2.1))])] (leHk h [])) : slP.S ar h (slP.res a0 a1 y) (slP.out a0 a1 y) := ⟨a0, a1, y, H, (ao h0).1, (ao h0).2, rfl, rfl⟩
theorem slP.spec (a0 a1 y) (H : slP a0 a1 = some y) : Spec Tryz.prog 197 [(.agg [(.v (.int .i64 a0.1)), (.tree tS a0.2.1), (.v (.int .i64 a0.2.2.1)), (.v (.int .i64 a0.2.2.2.1)), (.v (.int .i64 a0.2.2.2.2.1))]), (.agg [(.v (.int .i64 a1.1)), (.v (.int .i64 a1.2.1))])] [] (slP.res a0 a1 y) (slP.out a0 a1 y) := by
 refine si (G31_ok.at tok []) (ct := [(16, none), (4, some [2, 3, 4, 6, 7, 8, 28, 29, 32, 33, 34, 59, 60, 61, 67, 68, 71, 72, 73, 84, 85, 86, 89, 90, 91, 99, 100, 101]), (7, some [2, 3, 4, 6, 7, 8, 9]), (19, some [2, 4, 6, 7, 8, 9]), (21, some [2, 4, 6, 7, 8, 9]), (22, some [4, 6, 7, 8, 9])]) Tryz.func197 rfl (by kernel_rfl) (by kernel_rfl) rfl ?_
 repeat' first
  | ((with_reducible refine eqg ?_); exact rfl)
  | ((with_reducible refine KOb.mk ?_); kernel_rfl)
  | ((with_reducible intro h); (repeat first | replace H := grd_k H | replace H := os1 H ‹_›); first | replace H := ct1 h H | replace H := cf1 h H | exact absurd h (by decide) | skip)
  | ((with_reducible refine Ob.mk ?_); first | (with_reducible rfl) | (first | ((repeat (first | (with_reducible exact grd_p H) | replace H := grd_k H | replace H := os1 H ‹_›)); done) | rfl | ((repeat (first | exact grd_p H | (have hp := grd_p H; exact hp) | replace H := grd_k H | replace H := os1 H ‹_› | (replace H := bind_some H; obtain ⟨_, _, H⟩ := H))); done) | (repeat (first | exact grd_p H | replace H := grd_k H | replace H := os1 H ‹_›))))
  | (with_reducible exact True.intro)
  | ((conv => whnf); first
      | (with_reducible refine And.intro ?_ ?_)
      | (with_reducible exact True.intro)
      | (with_reducible refine (?_ : Ob _))
      | ((with_reducible refine CallW.mk ?_); (repeat first | replace H := grd_k H | replace H := os1 H ‹_›); replace H := bind_some H; obtain ⟨y, hy, H⟩ := H; first | ((with_reducible have hz : slO2 _ = some y := hy); clear hz; refine ⟨_, _, slO2.call hy ?_, rfl, rfl, ?_⟩) | ((with_reducible have hz : slS1 _ _ = some y := hy); clear hz; refine ⟨_, _, slS1.call hy ?_, rfl, rfl, ?_⟩))
      | ((with_reducible refine cutAt (id := 16) ?_); (repeat first | replace H := grd_k H | replace H := os1 H ‹_›); first | (replace H := bind_some H; obtain ⟨z, hz, H⟩ := H; refine CutC.mk (id := 16) ⟨sl [(2, (.loc 0 0 0)), (3, (.loc 1 0 0)), (4, (.loc 2 0 0)), (6, (.loc 3 0 0)), (7, (.v (.int .i64 z.1))), (8, (.loc 4 0 0)), (9, (.bl z.2.1))], [some (.box 38 [(.v (.int .i64 a0.1)), (.tree tS a0.2.1), (.v (.int .i64 a0.2.2.1)), (.v (.int .i64 a0.2.2.2.1)), (.v (.int .i64 a0.2.2.2.2.1))]), some (.box 120 [(.v (.int .i64 a1.1)), (.v (.int .i64 a1.2.1))]), some (.box 38 [(.v (.int .i64 (0 : Int))), (.v (.slice none 0 0)), (.v (.int .i64 (0 : Int))), (.v (.int .i64 (0 : Int))), (.v (.int .i64 (0 : Int)))]), some (.box 38 [(.v (.int .i64 z.2.2.1)), (.own 5), (.v (.int .i64 z.2.2.2.1)), (.v (.int .i64 z.2.2.2.2.1)), (.v (.int .i64 z.2.2.2.2.2.1))]), some (.box 96 [(.v (.int .i64 z.2.2.2.2.2.2.1)), (.bl z.2.2.2.2.2.2.2.1), (.v (.int .i64 z.2.2.2.2.2.2.2.2.1))]), some (.arr 96 tS z.2.2.2.2.2.2.2.2.2)]⟩ ?_ ?_; (replace H := hz)))
      | ((repeat first | replace H := grd_k H | replace H := os1 H ‹_›); have H := Option.some.inj H; subst H; with_reducible refine sa ?_)
      | ((with_reducible refine fm ?_); (repeat first | replace H := grd_k H | replace H := os1 H ‹_›); have H := Option.some.inj H; subst H))
  | constructor
def G32 : Env := G31.add 197 [] slP.S
theorem G32_ok : EnvOk Tryz.prog G32 := G31_ok.add ent_197 fun ar h r h1 ⟨a0, a1, y, hy, e1, e2, e3, e4⟩ => by
 subst e3 e4; exact (slP.spec a0 a1 y hy).le e1 e2
attribute [local irreducible] slP

noncomputable def slM1 (a0 : R1) (a1 : RS1) : Option (R1 × Bool) :=
 ((cond (decide (a1.1 ≤ (4 : Int))) ((slR1 (a0.1, a0.2.1, a0.2.2.1, a0.2.2.2.1, a0.2.2.2.2.1, ()) (a1.1, a1.2.1, ())).bind fun y1 => (some (y1.2, y1.1.1, y1.1.2.2.1, y1.1.2.2.2.1, y1.1.2.2.2.2.1, y1.1.2.1))) ((slP (a0.1, a0.2.1, a0.2.2.1, a0.2.2.2.1, a0.2.2.2.2.1, ()) (a1.1, a1.2.1, ())).bind fun y2 => (some (y2.2, y2.1.1, y2.1.2.2.1, y2.1.2.2.2.1, y2.1.2.2.2.2.1, y2.1.2.1)))).bind fun z3 => (cond z3.1 ((slG (z3.2.1, z3.2.2.2.2.2, z3.2.2.1, z3.2.2.2.1, z3.2.2.2.2.1, ())).bind fun y4 => (some ((z3.2.1, z3.2.2.2.2.2, z3.2.2.1, z3.2.2.2.1, z3.2.2.2.2.1, ()), y4))) ((some ((z3.2.1, z3.2.2.2.2.2, z3.2.2.1, z3.2.2.2.1, z3.2.2.2.2.1, ()), false)))))
def slM1.res (_ : R1) (_ : RS1) (y : R1 × Bool) : AV := (.tup [(.agg [(.v (.int .i64 y.1.1)), (.own 0), (.v (.int .i64 y.1.2.2.1)), (.v (.int .i64 y.1.2.2.2.1)), (.v (.int .i64 y.1.2.2.2.2.1))]), (.bl y.2)])
def slM1.out (_ : R1) (_ : RS1) (y : R1 × Bool) : List (Option LB) := [some (.arr 96 tS y.1.2.1)]
def slM1.S (ar : List AV) (h : List (Option LB)) (r : AV) (h1 : List (Option LB)) : Prop := ∃ a0 a1 y, slM1 a0 a1 = some y ∧ leL ar [(.agg [(.v (.int .i64 a0.1)), (.tree tS a0.2.1), (.v (.int .i64 a0.2.2.1)), (.v (.int .i64 a0.2.2.2.1)), (.v (.int .i64 a0.2.2.2.2.1))]), (.agg [(.v (.int .i64 a1.1)), (.v (.int .i64 a1.2.1))])] ∧ leH h [] ∧ r = slM1.res a0 a1 y ∧ h1 = slM1.out a0 a1 y
theorem slM1.call {ar h a0 a1 y} (H : slM1 a0 a1 = some y) (h0 : leLk ar [(.agg [(.v (.int .i64 a0.1)), (.tree tS a0.2.1), (.v (.int .i64 a0.2.2.1)), (.v (.int .i64 a0.2.2.2.1)), (.v (.int .i64 a0.2.2.2.2.1))]), (.agg [(.v (.int .i64 a1.1)), (.v (.int .i64 a1.2.1))])] (leHk h [])) : slM1.S ar h (slM1.res a0 a1 y) (slM1.out a0 a1 y) := ⟨a0, a1, y, H, (ao h0).1, (ao h0).2, rfl, rfl⟩
theorem slM1.spec (a0 a1 y) (H : slM1 a0 a1 = some y) : Spec Tryz.prog 171 [(.agg [(.v (.int .i64 a0.1)), (.tree tS a0.2.1), (.v (.int .i64 a0.2.2.1)), (.v (.int .i64 a0.2.2.2.1)), (.v (.int .i64 a0.2.2.2.2.1))]), (.agg [(.v (.int .i64 a1.1)), (.v (.int .i64 a1.2.1))])] [] (slM1.res a0 a1 y) (slM1.out a0 a1 y) := by
 refine si (G32_ok.at tok []) (ct := [(5, none)]) Tryz.func171 rfl (by kernel_rfl) (by kernel_rfl) rfl ?_
 repeat' first
  | ((with_reducible refine eqg ?_); exact rfl)
  | ((with_reducible refine KOb.mk ?_); kernel_rfl)
  | ((with_reducible intro h); (repeat first | replace H := grd_k H | replace H := os1 H ‹_›); first | replace H := ct1 h H | replace H := cf1 h H | exact absurd h (by decide) | skip)
  | ((with_reducible refine Ob.mk ?_); first | (with_reducible rfl) | (first | ((repeat (first | (with_reducible exact grd_p H) | replace H := grd_k H | replace H := os1 H ‹_›)); done) | rfl | ((repeat (first | exact grd_p H | (have hp := grd_p H; exact hp) | replace H := grd_k H | replace H := os1 H ‹_› | (replace H := bind_some H; obtain ⟨_, _, H⟩ := H))); done) | (repeat (first | exact grd_p H | replace H := grd_k H | replace H := os1 H ‹_›))))
  | (with_reducible exact True.intro)
  | ((conv => whnf); first
      | (with_reducible refine And.intro ?_ ?_)
      | (with_reducible exact True.intro)
      | (with_reducible refine (?_ : Ob _))
      | ((with_reducible refine CallW.mk ?_); (repeat first | replace H := grd_k H | replace H := os1 H ‹_›); replace H := bind_some H; obtain ⟨y, hy, H⟩ := H; first | ((with_reducible have hz : slR1 _ _ = some y := hy); clear hz; refine ⟨_, _, slR1.call hy ?_, rfl, rfl, ?_⟩) | ((with_reducible have hz : slP _ _ = some y := hy); clear hz; refine ⟨_, _, slP.call hy ?_, rfl, rfl, ?_⟩) | ((with_reducible have hz : slG _ = some y := hy); clear hz; refine ⟨_, _, slG.call hy ?_, rfl, rfl, ?_⟩))
      | ((with_reducible refine cutAt (id := 5) ?_); (repeat first | replace H := grd_k H | replace H := os1 H ‹_›); first | (replace H := bind_some H; obtain ⟨z, hz, H⟩ := H; refine CutC.mk (id := 5) ⟨sl [(4, (.loc 0 0 0)), (6, (.loc 1 0 0)), (7, (.bl z.1))], [some (.box 38 [(.v (.int .i64 (0 : Int))), (.v (.slice none 0 0)), (.v (.int .i64 (0 : Int))), (.v (.int .i64 (0 : Int))), (.v (.int .i64 (0 : Int)))]), some (.box 38 [(.v (.int .i64 z.2.1)), (.own 2), (.v (.int .i64 z.2.2.1)), (.v (.int .i64 z.2.2.2.1)), (.v (.int .i64 z.2.2.2.2.1))]), some (.arr 96 tS z.2.2.2.2.2)]⟩ ?_ ?_; (replace H := hz)))
      | ((repeat first | replace H := grd_k H | replace H := os1 H ‹_›); have H := Option.some.inj H; subst H; with_reducible refine sa ?_)
      | ((with_reducible refine fm ?_); (repeat first | replace H := grd_k H | replace H := os1 H ‹_›); have H := Option.some.inj H; subst H))
  | constructor
def G33 : Env := G32.add 171 [] slM1.S
theorem G33_ok : EnvOk Tryz.prog G33 := G32_ok.add ent_171 fun ar h r h1 ⟨a0, a1, y, hy, e1, e2, e3, e4⟩ => by
 subst e3 e4; exact (slM1.spec a0 a1 y hy).le e1 e2
attribute [local irreducible] slM1

noncomputable def sSR (a0 : R1) (a1 : RS1) : Option ((R1) ⊕ (R1)) :=
 ((slG (a0.1, a0.2.1, a0.2.2.1, a0.2.2.2.1, a0.2.2.2.2.1, ())).bind fun y1 => (cond (!y1) ((some (Sum.inl ((0 : Int), [], (0 : Int), (0 : Int), (0 : Int), ())))) ((slS3 (a1.1, a1.2.1, ())).bind fun y2 => (cond (!y2) ((some (Sum.inl ((0 : Int), [], (0 : Int), (0 : Int), (0 : Int), ())))) ((slM1 (a0.1, a0.2.1, a0.2.2.1, a0.2.2.2.1, a0.2.2.2.2.1, ()) (a1.1, a1.2.1, ())).bind fun y3 => (cond (!y3.2) ((some (Sum.inl ((0 : Int), [], (0 : Int), (0 : Int), (0 : Int), ())))) ((some (Sum.inr (y3.1.1, y3.1.2.1, y3.1.2.2.1, y3.1.2.2.2.1, y3.1.2.2.2.2.1, ()))))))))))
def sSR.res (_ : R1) (_ : RS1) (y : (R1) ⊕ (R1)) : AV := match y with
 | (.inl y) => (.tup [(.agg [(.v (.int .i64 y.1)), (.v (.slice none 0 0)), (.v (.int .i64 y.2.2.1)), (.v (.int .i64 y.2.2.2.1)), (.v (.int .i64 y.2.2.2.2.1))]), (.v (.bool false))])
 | (.inr y) => (.tup [(.agg [(.v (.int .i64 y.1)), (.own 0), (.v (.int .i64 y.2.2.1)), (.v (.int .i64 y.2.2.2.1)), (.v (.int .i64 y.2.2.2.2.1))]), (.v (.bool true))])
def sSR.out (_ : R1) (_ : RS1) (y : (R1) ⊕ (R1)) : List (Option LB) := match y with
 | (.inl _) => []
 | (.inr y) => [some (.arr 96 tS y.2.1)]
def sSR.S (ar : List AV) (h : List (Option LB)) (r : AV) (h1 : List (Option LB)) : Prop := ∃ a0 a1 y, sSR a0 a1 = some y ∧ leL ar [(.agg [(.v (.int .i64 a0.1)), (.tree tS a0.2.1), (.v (.int .i64 a0.2.2.1)), (.v (.int .i64 a0.2.2.2.1)), (.v (.int .i64 a0.2.2.2.2.1))]), (.agg [(.v (.int .i64 a1.1)), (.v (.int .i64 a1.2.1))])] ∧ leH h [] ∧ r = sSR.res a0 a1 y ∧ h1 = sSR.out a0 a1 y
theorem sSR.call {ar h a0 a1 y} (H : sSR a0 a1 = some y) (h0 : leLk ar [(.agg [(.v (.int .i64 a0.1)), (.tree tS a0.2.1), (.v (.int .i64 a0.2.2.1)), (.v (.int .i64 a0.2.2.2.1)), (.v (.int .i64 a0.2.2.2.2.1))]), (.agg [(.v (.int .i64 a1.1)), (.v (.int .i64 a1.2.1))])] (leHk h [])) : sSR.S ar h (sSR.res a0 a1 y) (sSR.out a0 a1 y) := ⟨a0, a1, y, H, (ao h0).1, (ao h0).2, rfl, rfl⟩
theorem sSR.spec (a0 a1 y) (H : sSR a0 a1 = some y) : Spec Tryz.prog 143 [(.agg [(.v (.int .i64 a0.1)), (.tree tS a0.2.1), (.v (.int .i64 a0.2.2.1)), (.v (.int .i64 a0.2.2.2.1)), (.v (.int .i64 a0.2.2.2.2.1))]), (.agg [(.v (.int .i64 a1.1)), (.v (.int .i64 a1.2.1))])] [] (sSR.res a0 a1 y) (sSR.out a0 a1 y) := by
 have hlen : Nat.ble ([] : List (Option LB)).length (sSR.out a0 a1 y).length = true := by
  rcases y with y | y <;> rfl
 refine si (G33_ok.at tok []) (ct := [(3, some [2, 3, 4])]) Tryz.func143 rfl (by kernel_rfl) (by kernel_rfl) hlen ?_
 repeat' first
  | ((with_reducible refine eqg ?_); exact rfl)
  | ((with_reducible refine KOb.mk ?_); kernel_rfl)
  | ((with_reducible intro h); (repeat first | replace H := grd_k H | replace H := os1 H ‹_›); first | replace H := ct1 h H | replace H := cf1 h H | exact absurd h (by decide) | skip)
  | ((with_reducible refine Ob.mk ?_); first | (with_reducible rfl) | (first | ((repeat (first | (with_reducible exact grd_p H) | replace H := grd_k H | replace H := os1 H ‹_›)); done) | rfl | ((repeat (first | exact grd_p H | (have hp := grd_p H; exact hp) | replace H := grd_k H | replace H := os1 H ‹_› | (replace H := bind_some H; obtain ⟨_, _, H⟩ := H))); done) | (repeat (first | exact grd_p H | replace H := grd_k H | replace H := os1 H ‹_›))))
  | (with_reducible exact True.intro)
  | ((conv => whnf); first
      | (with_reducible refine And.intro ?_ ?_)
      | (with_reducible exact True.intro)
      | (with_reducible refine (?_ : Ob _))
      | ((with_reducible refine CallW.mk ?_); (repeat first | replace H := grd_k H | replace H := os1 H ‹_›); replace H := bind_some H; obtain ⟨y, hy, H⟩ := H; first | ((with_reducible have hz : slG _ = some y := hy); clear hz; refine ⟨_, _, slG.call hy ?_, rfl, rfl, ?_⟩) | ((with_reducible have hz : slS3 _ = some y := hy); clear hz; refine ⟨_, _, slS3.call hy ?_, rfl, rfl, ?_⟩) | ((with_reducible have hz : slM1 _ _ = some y := hy); clear hz; refine ⟨_, _, slM1.call hy ?_, rfl, rfl, ?_⟩))
      | ((with_reducible refine fm ?_); (repeat first | replace H := grd_k H | replace H := os1 H ‹_›); have H := Option.some.inj H; subst H))
  | constructor
def G34 : Env := G33.add 143 [] sSR.S
theorem G34_ok : EnvOk Tryz.prog G34 := G33_ok.add ent_143 fun ar h r h1 ⟨a0, a1, y, hy, e1, e2, e3, e4⟩ => by
 subst e3 e4; exact (sSR.spec a0 a1 y hy).le e1 e2
attribute [local irreducible] sSR

noncomputable def slLl (a0 : (List Int)) (v7 : ByteArray) (v8 : Int) : Option (Lp (ByteArray × Int) ((ByteArray))) :=
 (cond (decide (v8 < (a0.length : Int))) (grd (v7.size + (ByteArray.mk #[32]).size ≤ 9223372036854775807) (grd (0 ≤ v8 ∧ v8 < (a0.length : Int)) ((slN (a0.getD v8.toNat 0)).bind fun y9 => (grd ((v7 ++ (ByteArray.mk #[32])).size + y9.size ≤ 9223372036854775807) (some (.go (((v7 ++ (ByteArray.mk #[32])) ++ y9), (w64 (v8 + (1 : Int)))))))))) ((some (.out v7))))
noncomputable def slL1 (a0 : (List Int)) (a1 : Bool) : Option (ByteArray) :=
 (cond (!a1) ((some (ByteArray.mk #[63]))) (cond (decide ((a0.length : Int) = (0 : Int))) ((some (ByteArray.mk #[110, 111, 110, 101]))) (grd (0 ≤ (0 : Int) ∧ (0 : Int) < (a0.length : Int)) ((slN (a0.getD ((0 : Int).toNat) 0)).bind fun y1 => ((iter (fun s => slLl a0 s.1 s.2) (y1, (1 : Int))).bind (fun r10 => (some r10)))))))
def slL1.res (_ : (List Int)) (_ : Bool) (y : ByteArray) : AV := (.v (.string y))
def slL1.out (_ : (List Int)) (_ : Bool) (_ : ByteArray) : List (Option LB) := []
def slL1.S (ar : List AV) (h : List (Option LB)) (r : AV) (h1 : List (Option LB)) : Prop := ∃ a0 a1 y, slL1 a0 a1 = some y ∧ leL ar [(.tree (.int .i64) a0), (.bl a1)] ∧ leH h [] ∧ r = slL1.res a0 a1 y ∧ h1 = slL1.out a0 a1 y
theorem slL1.call {ar h a0 a1 y} (H : slL1 a0 a1 = some y) (h0 : leLk ar [(.tree (.int .i64) a0), (.bl a1)] (leHk h [])) : slL1.S ar h (slL1.res a0 a1 y) (slL1.out a0 a1 y) := ⟨a0, a1, y, H, (ao h0).1, (ao h0).2, rfl, rfl⟩
theorem slL1.spec (a0 a1 y) (H : slL1 a0 a1 = some y) : Spec Tryz.prog 116 [(.tree (.int .i64) a0), (.bl a1)] [] (slL1.res a0 a1 y) (slL1.out a0 a1 y) := by
 refine si (G34_ok.at tok []) (ct := [(7, some [0, 5, 6])]) Tryz.func116 rfl (by kernel_rfl) (by kernel_rfl) rfl ?_
 repeat' first
  | ((with_reducible refine eqg ?_); exact rfl)
  | ((with_reducible refine KOb.mk ?_); kernel_rfl)
  | ((with_reducible intro h); (repeat first | replace H := grd_k H | replace H := os1 H ‹_›); first | replace H := ct1 h H | replace H := cf1 h H | exact absurd h (by decide) | skip)
  | ((with_reducible refine Ob.mk ?_); first | (with_reducible rfl) | (first | ((repeat (first | (with_reducible exact grd_p H) | replace H := grd_k H | replace H := os1 H ‹_›)); done) | rfl | ((repeat (first | exact grd_p H | (have hp := grd_p H; exact hp) | replace H := grd_k H | replace H := os1 H ‹_› | (replace H := bind_some H; obtain ⟨_, _, H⟩ := H))); done) | (repeat (first | exact grd_p H | replace H := grd_k H | replace H := os1 H ‹_›))))
  | (with_reducible exact True.intro)
  | ((conv => whnf); first
      | (with_reducible refine And.intro ?_ ?_)
      | (with_reducible exact True.intro)
      | (with_reducible refine (?_ : Ob _))
      | ((with_reducible refine CallW.mk ?_); (repeat first | replace H := grd_k H | replace H := os1 H ‹_›); replace H := bind_some H; obtain ⟨y, hy, H⟩ := H; first | ((with_reducible have hz : slN _ = some y := hy); clear hz; refine ⟨_, _, slN.call hy ?_, rfl, rfl, ?_⟩))
      | ((repeat first | replace H := grd_k H | replace H := os1 H ‹_›); refine li1 (G34_ok.at tok []) (ct := [(7, some [0, 5, 6])]) (F := (fun s1 : ByteArray × Int => ⟨sl [(0, (.tree (.int .i64) a0)), (5, (.v (.string s1.1))), (6, (.v (.int .i64 s1.2)))], []⟩)) (step := (fun s : ByteArray × Int => slLl _ s.1 s.2)) _ H (by kernel_rfl) (sa ?_) ?_; rotate_left; (intro s1 r v hr H); rotate_right)
      | ((repeat first | replace H := grd_k H | replace H := os1 H ‹_›); refine as1 H (by assumption) (sa ?_))
      | ((with_reducible refine fm ?_); (repeat first | replace H := grd_k H | replace H := os1 H ‹_›); have H := Option.some.inj H; subst H))
  | constructor
def G35 : Env := G34.add 116 [] slL1.S
theorem G35_ok : EnvOk Tryz.prog G35 := G34_ok.add ent_116 fun ar h r h1 ⟨a0, a1, y, hy, e1, e2, e3, e4⟩ => by
 subst e3 e4; exact (slL1.spec a0 a1 y hy).le e1 e2
attribute [local irreducible] slL1

noncomputable def slCl2 (a0 : R1) (v3 : Int) (v4 : (List Int)) : Option (Lp (Int × (List Int)) (((List Int)))) :=
 (cond (decide (v3 < (a0.2.1.length : Int))) (grd (0 ≤ v3 ∧ v3 < (a0.2.1.length : Int)) (grd (v4.length + [(a0.2.1.getD v3.toNat dS).1].length ≤ 140737488355328 / 8 ∧ v4.length + [(a0.2.1.getD v3.toNat dS).1].length ≤ 140737488355328) (some (.go ((w64 (v3 + (1 : Int))), (v4 ++ [(a0.2.1.getD v3.toNat dS).1])))))) ((some (.out v4))))
noncomputable def slC (a0 : R1) : Option (ByteArray) :=
 ((iter (fun s => slCl2 a0 s.1 s.2) ((0 : Int), ([] : List Int))).bind (fun r5 => ((slL1 r5 true).bind fun y6 => (some y6))))
def slC.res (_ : R1) (y : ByteArray) : AV := (.v (.string y))
def slC.out (_ : R1) (_ : ByteArray) : List (Option LB) := []
def slC.S (ar : List AV) (h : List (Option LB)) (r : AV) (h1 : List (Option LB)) : Prop := ∃ a0 y, slC a0 = some y ∧ leL ar [(.agg [(.v (.int .i64 a0.1)), (.tree tS a0.2.1), (.v (.int .i64 a0.2.2.1)), (.v (.int .i64 a0.2.2.2.1)), (.v (.int .i64 a0.2.2.2.2.1))])] ∧ leH h [] ∧ r = slC.res a0 y ∧ h1 = slC.out a0 y
theorem slC.call {ar h a0 y} (H : slC a0 = some y) (h0 : leLk ar [(.agg [(.v (.int .i64 a0.1)), (.tree tS a0.2.1), (.v (.int .i64 a0.2.2.1)), (.v (.int .i64 a0.2.2.2.1)), (.v (.int .i64 a0.2.2.2.2.1))])] (leHk h [])) : slC.S ar h (slC.res a0 y) (slC.out a0 y) := ⟨a0, y, H, (ao h0).1, (ao h0).2, rfl, rfl⟩
theorem slC.spec (a0 y) (H : slC a0 = some y) : Spec Tryz.prog 152 [(.agg [(.v (.int .i64 a0.1)), (.tree tS a0.2.1), (.v (.int .i64 a0.2.2.1)), (.v (.int .i64 a0.2.2.2.1)), (.v (.int .i64 a0.2.2.2.2.1))])] [] (slC.res a0 y) (slC.out a0 y) := by
 refine si (G35_ok.at tok []) (ct := [(4, some [1, 3, 4])]) Tryz.func152 rfl (by kernel_rfl) (by kernel_rfl) rfl ?_
 repeat' first
  | ((with_reducible refine eqg ?_); exact rfl)
  | ((with_reducible refine KOb.mk ?_); kernel_rfl)
  | ((with_reducible intro h); (repeat first | replace H := grd_k H | replace H := os1 H ‹_›); first | replace H := ct1 h H | replace H := cf1 h H | exact absurd h (by decide) | skip)
  | ((with_reducible refine Ob.mk ?_); first | (with_reducible rfl) | (first | ((repeat (first | (with_reducible exact grd_p H) | replace H := grd_k H | replace H := os1 H ‹_›)); done) | rfl | ((repeat (first | exact grd_p H | (have hp := grd_p H; exact hp) | replace H := grd_k H | replace H := os1 H ‹_› | (replace H := bind_some H; obtain ⟨_, _, H⟩ := H))); done) | (repeat (first | exact grd_p H | replace H := grd_k H | replace H := os1 H ‹_›))))
  | (with_reducible exact True.intro)
  | ((conv => whnf); first
      | (with_reducible refine And.intro ?_ ?_)
      | (with_reducible exact True.intro)
      | (with_reducible refine (?_ : Ob _))
      | ((with_reducible refine CallW.mk ?_); (repeat first | replace H := grd_k H | replace H := os1 H ‹_›); replace H := bind_some H; obtain ⟨y, hy, H⟩ := H; first | ((with_reducible have hz : slL1 _ _ = some y := hy); clear hz; refine ⟨_, _, slL1.call hy ?_, rfl, rfl, ?_⟩))
      | ((repeat first | replace H := grd_k H | replace H := os1 H ‹_›); refine li1 (G35_ok.at tok []) (ct := [(4, some [1, 3, 4])]) (F := (fun s1 : Int × (List Int) => ⟨sl [(1, (.loc 0 0 0)), (3, (.own 1)), (4, (.v (.int .i64 s1.1)))], [some (.box 38 [(.v (.int .i64 a0.1)), (.tree tS a0.2.1), (.v (.int .i64 a0.2.2.1)), (.v (.int .i64 a0.2.2.2.1)), (.v (.int .i64 a0.2.2.2.2.1))]), some (.arr 3 (.int .i64) s1.2)]⟩)) (step := (fun s : Int × (List Int) => slCl2 _ s.1 s.2)) _ H (by kernel_rfl) (sa ?_) ?_; rotate_left; (intro s1 r v hr H); rotate_right)
      | ((repeat first | replace H := grd_k H | replace H := os1 H ‹_›); refine as1 H (by assumption) (sa ?_))
      | ((with_reducible refine fm ?_); (repeat first | replace H := grd_k H | replace H := os1 H ‹_›); have H := Option.some.inj H; subst H))
  | constructor
def G36 : Env := G35.add 152 [] slC.S
theorem G36_ok : EnvOk Tryz.prog G36 := G35_ok.add ent_152 fun ar h r h1 ⟨a0, y, hy, e1, e2, e3, e4⟩ => by
 subst e3 e4; exact (slC.spec a0 y hy).le e1 e2
attribute [local irreducible] slC

end Go.Proofs.YtaobinhdnklojaaGreatDoor
