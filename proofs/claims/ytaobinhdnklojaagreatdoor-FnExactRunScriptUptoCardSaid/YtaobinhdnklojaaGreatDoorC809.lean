/-
  Contracts, printed by a program.
-/
import Derived.Test.YtaobinhdnklojaaGreatDoorC806
namespace Go.Proofs.YtaobinhdnklojaaGreatDoor
open Go.RowKit
set_option maxHeartbeats 100000000
set_option maxRecDepth 100000
attribute [local irreducible] Ob loopwp Sub Spec Fin Again CallW CutC KOb iter

attribute [local irreducible] spec_l1In spec_l25Good spec_l1Num spec_l1Num_f spec_l25Open spec_l25Station spec_StepRopeway spec_l28List spec_l28Cabins

noncomputable def spec_l28Make (a0 : Console) (a1 : Int) (a2 : Int) : Option ((Console × ByteArray × (List Slot)) ⊕ (Console × ByteArray × (List Slot))) :=
  ((spec_StepRopeway (a0.1.1, a0.1.2.1, a0.1.2.2.1, a0.1.2.2.2.1, a0.1.2.2.2.2.1, ()) (a1, a2, ())).bind (Sum.elim (fun _ => (some (Sum.inl (((a0.1.1, a0.1.2.1, a0.1.2.2.1, a0.1.2.2.2.1, a0.1.2.2.2.2.1, ()), (a0.2.1.1, a0.2.1.2.1, a0.2.1.2.2.1, ()), ()), (ByteArray.mk #[63]), a0.1.2.1)))) (fun y3 => (cond (decide (a1 = (1 : Int))) (grd (0 ≤ a2 ∧ a2 < ([(ByteArray.mk #[115, 116, 111, 112, 112, 101, 100]), (ByteArray.mk #[115, 108, 111, 119]), (ByteArray.mk #[110, 111, 114, 109, 97, 108]), (ByteArray.mk #[108, 111, 99, 107, 101, 100])].length : Int)) ((some (Sum.inr (((y3.1, y3.2.1, y3.2.2.1, y3.2.2.2.1, y3.2.2.2.2.1, ()), (a0.2.1.1, a0.2.1.2.1, a0.2.1.2.2.1, ()), ()), ([(ByteArray.mk #[115, 116, 111, 112, 112, 101, 100]), (ByteArray.mk #[115, 108, 111, 119]), (ByteArray.mk #[110, 111, 114, 109, 97, 108]), (ByteArray.mk #[108, 111, 99, 107, 101, 100])].getD a2.toNat (ByteArray.mk #[])), a0.1.2.1))))) ((cond (decide (a1 = (2 : Int))) ((some (true, y3.1, y3.2.2.1, y3.2.2.2.1, y3.2.2.2.2.1, y3.1, y3.2.2.1, y3.2.2.2.1, y3.2.2.2.2.1, y3.2.1))) (cond (decide (a1 = (3 : Int))) ((some (true, y3.1, y3.2.2.1, y3.2.2.2.1, y3.2.2.2.2.1, y3.1, y3.2.2.1, y3.2.2.2.1, y3.2.2.2.2.1, y3.2.1))) ((some ((decide (a1 = (4 : Int))), y3.1, y3.2.2.1, y3.2.2.2.1, y3.2.2.2.2.1, y3.1, y3.2.2.1, y3.2.2.2.1, y3.2.2.2.2.1, y3.2.1))))).bind fun z4 => (cond z4.1 ((spec_l28Cabins (z4.2.1, z4.2.2.2.2.2.2.2.2.2, z4.2.2.1, z4.2.2.2.1, z4.2.2.2.2.1, ())).bind fun y5 => (some (Sum.inr (((z4.2.2.2.2.2.1, z4.2.2.2.2.2.2.2.2.2, z4.2.2.2.2.2.2.1, z4.2.2.2.2.2.2.2.1, z4.2.2.2.2.2.2.2.2.1, ()), (a0.2.1.1, a0.2.1.2.1, a0.2.1.2.2.1, ()), ()), y5, a0.1.2.1)))) (cond (decide (a1 = (7 : Int))) ((spec_l25Station (z4.2.1, z4.2.2.2.2.2.2.2.2.2, z4.2.2.1, z4.2.2.2.1, z4.2.2.2.2.1, ()) a2).bind fun y6 => (grd (0 ≤ y6 ∧ y6 < (z4.2.2.2.2.2.2.2.2.2.length : Int)) (cond ((z4.2.2.2.2.2.2.2.2.2.getD y6.toNat d_Slot).2.1) ((some (Sum.inr (((z4.2.2.2.2.2.1, z4.2.2.2.2.2.2.2.2.2, z4.2.2.2.2.2.2.1, z4.2.2.2.2.2.2.2.1, z4.2.2.2.2.2.2.2.2.1, ()), (a0.2.1.1, a0.2.1.2.1, a0.2.1.2.2.1, ()), ()), (ByteArray.mk #[111, 112, 101, 110]), a0.1.2.1)))) ((some (Sum.inr (((z4.2.2.2.2.2.1, z4.2.2.2.2.2.2.2.2.2, z4.2.2.2.2.2.2.1, z4.2.2.2.2.2.2.2.1, z4.2.2.2.2.2.2.2.2.1, ()), (a0.2.1.1, a0.2.1.2.1, a0.2.1.2.2.1, ()), ()), (ByteArray.mk #[115, 104, 117, 116]), a0.1.2.1))))))) ((spec_l25Station (z4.2.1, z4.2.2.2.2.2.2.2.2.2, z4.2.2.1, z4.2.2.2.1, z4.2.2.2.2.1, ()) a2).bind fun y7 => (grd (0 ≤ y7 ∧ y7 < (z4.2.2.2.2.2.2.2.2.2.length : Int)) ((spec_l1Num ((z4.2.2.2.2.2.2.2.2.2.getD y7.toNat d_Slot).2.2.1)).bind fun y8 => (some (Sum.inr (((z4.2.2.2.2.2.1, z4.2.2.2.2.2.2.2.2.2, z4.2.2.2.2.2.2.1, z4.2.2.2.2.2.2.2.1, z4.2.2.2.2.2.2.2.2.1, ()), (a0.2.1.1, a0.2.1.2.1, a0.2.1.2.2.1, ()), ()), y8, a0.1.2.1)))))))))))))
def spec_l28Make.res (_ : Console) (_ : Int) (_ : Int) (y : (Console × ByteArray × (List Slot)) ⊕ (Console × ByteArray × (List Slot))) : AV := match y with
  | (.inl y) => (.tup [(.agg [(.v (.int .i64 y.1.1.1)), (.own 0), (.v (.int .i64 y.1.1.2.2.1)), (.v (.int .i64 y.1.1.2.2.2.1)), (.v (.int .i64 y.1.1.2.2.2.2.1)), (.v (.string y.1.2.1.1)), (.v (.string y.1.2.1.2.1)), (.v (.int .i64 y.1.2.1.2.2.1))]), (.v (.string y.2.1))])
  | (.inr y) => (.tup [(.agg [(.v (.int .i64 y.1.1.1)), (.own 1), (.v (.int .i64 y.1.1.2.2.1)), (.v (.int .i64 y.1.1.2.2.2.1)), (.v (.int .i64 y.1.1.2.2.2.2.1)), (.v (.string y.1.2.1.1)), (.v (.string y.1.2.1.2.1)), (.v (.int .i64 y.1.2.1.2.2.1))]), (.v (.string y.2.1))])
def spec_l28Make.out (_ : Console) (_ : Int) (_ : Int) (y : (Console × ByteArray × (List Slot)) ⊕ (Console × ByteArray × (List Slot))) : List (Option LB) := match y with
  | (.inl y) => [some (.arr 96 ty_Slot y.2.2)]
  | (.inr y) => [some (.arr 96 ty_Slot y.2.2), some (.arr 96 ty_Slot y.1.1.2.1)]
def spec_l28Make.S (ar : List AV) (h : List (Option LB)) (r : AV) (h1 : List (Option LB)) : Prop := ∃ a0 a1 a2 y, spec_l28Make a0 a1 a2 = some y ∧ leL ar [(.agg [(.v (.int .i64 a0.1.1)), (.own 0), (.v (.int .i64 a0.1.2.2.1)), (.v (.int .i64 a0.1.2.2.2.1)), (.v (.int .i64 a0.1.2.2.2.2.1)), (.v (.string a0.2.1.1)), (.v (.string a0.2.1.2.1)), (.v (.int .i64 a0.2.1.2.2.1))]), (.v (.int .i64 a1)), (.v (.int .i64 a2))] ∧ leH h [some (.arr 96 ty_Slot a0.1.2.1)] ∧ r = spec_l28Make.res a0 a1 a2 y ∧ h1 = spec_l28Make.out a0 a1 a2 y
theorem spec_l28Make.call {ar : List AV} {h : List (Option LB)} {a0 : Console} {a1 : Int} {a2 : Int} {y : (Console × ByteArray × (List Slot)) ⊕ (Console × ByteArray × (List Slot))} (H : spec_l28Make a0 a1 a2 = some y) (h0 : leLk ar [(.agg [(.v (.int .i64 a0.1.1)), (.own 0), (.v (.int .i64 a0.1.2.2.1)), (.v (.int .i64 a0.1.2.2.2.1)), (.v (.int .i64 a0.1.2.2.2.2.1)), (.v (.string a0.2.1.1)), (.v (.string a0.2.1.2.1)), (.v (.int .i64 a0.2.1.2.2.1))]), (.v (.int .i64 a1)), (.v (.int .i64 a2))] (leHk h [some (.arr 96 ty_Slot a0.1.2.1)])) : spec_l28Make.S ar h (spec_l28Make.res a0 a1 a2 y) (spec_l28Make.out a0 a1 a2 y) := ⟨a0, a1, a2, y, H, (args_ok h0).1, (args_ok h0).2, rfl, rfl⟩
theorem spec_l28Make.spec (a0 : Console) (a1 : Int) (a2 : Int) (y : (Console × ByteArray × (List Slot)) ⊕ (Console × ByteArray × (List Slot))) (H : spec_l28Make a0 a1 a2 = some y) : Spec Tryz.prog 114 [(.agg [(.v (.int .i64 a0.1.1)), (.own 0), (.v (.int .i64 a0.1.2.2.1)), (.v (.int .i64 a0.1.2.2.2.1)), (.v (.int .i64 a0.1.2.2.2.2.1)), (.v (.string a0.2.1.1)), (.v (.string a0.2.1.2.1)), (.v (.int .i64 a0.2.1.2.2.1))]), (.v (.int .i64 a1)), (.v (.int .i64 a2))] [some (.arr 96 ty_Slot a0.1.2.1)] (spec_l28Make.res a0 a1 a2 y) (spec_l28Make.out a0 a1 a2 y) := by
  have hlen : Nat.ble ([some (.arr 96 ty_Slot a0.1.2.1)] : List (Option LB)).length (spec_l28Make.out a0 a1 a2 y).length = true := by
    rcases y with y | y <;> rfl
  refine spec_intro (G36_ok.at tok []) (ct := [(12, none), (2, some [1, 2, 3, 6, 8, 9]), (11, some [2, 6, 8, 10, 26, 34]), (17, some [2, 6, 8, 10])]) Tryz.func114 rfl (by kernel_rfl) (by kernel_rfl) hlen ?_
  repeat' first
    | ((with_reducible refine eqg ?_); exact rfl)
    | ((with_reducible refine KOb.mk ?_); kernel_rfl)
    | ((with_reducible intro h); (repeat first | replace H := grd_k H | replace H := out_step H ‹_›); first | replace H := cond_t h H | replace H := cond_f h H | exact absurd h (by decide) | skip)
    | ((with_reducible refine Ob.mk ?_); first | (with_reducible rfl) | (first | ((repeat (first | (with_reducible exact grd_p H) | replace H := grd_k H | replace H := out_step H ‹_›)); done) | rfl | ((repeat (first | exact grd_p H | (have hp := grd_p H; exact hp) | replace H := grd_k H | replace H := out_step H ‹_› | (replace H := bind_some H; obtain ⟨_, _, H⟩ := H))); done) | (repeat (first | exact grd_p H | replace H := grd_k H | replace H := out_step H ‹_›))))
    | (with_reducible exact True.intro)
    | ((conv => whnf); first
        | (with_reducible refine And.intro ?_ ?_)
        | (with_reducible exact True.intro)
        | (with_reducible refine (?_ : Ob _))
        | ((with_reducible refine CallW.mk ?_); (repeat first | replace H := grd_k H | replace H := out_step H ‹_›); replace H := bind_some H; obtain ⟨y, hy, H⟩ := H; first | ((with_reducible have hz : spec_StepRopeway _ _ = some y := hy); clear hz; rcases y with y | y <;> refine ⟨_, _, spec_StepRopeway.call hy ?_, rfl, rfl, ?_⟩) | ((with_reducible have hz : spec_l28Cabins _ = some y := hy); clear hz; refine ⟨_, _, spec_l28Cabins.call hy ?_, rfl, rfl, ?_⟩) | ((with_reducible have hz : spec_l25Station _ _ = some y := hy); clear hz; refine ⟨_, _, spec_l25Station.call hy ?_, rfl, rfl, ?_⟩) | ((with_reducible have hz : spec_l1Num _ = some y := hy); clear hz; refine ⟨_, _, spec_l1Num.call hy ?_, rfl, rfl, ?_⟩))
        | ((with_reducible refine cutAt (id := 12) ?_); (repeat first | replace H := grd_k H | replace H := out_step H ‹_›); first | (replace H := bind_some H; obtain ⟨z, hz, H⟩ := H; refine CutC.mk (id := 12) ⟨sl [(2, (.v (.int .i64 a2))), (6, (.loc 1 0 0)), (8, (.loc 2 0 0)), (10, (.loc 3 0 0)), (26, (.v (.int .i64 a1))), (34, (.bl z.1))], [some (.arr 96 ty_Slot a0.1.2.1), some (.box 40 [(.v (.int .i64 (0 : Int))), (.v (.slice none 0 0)), (.v (.int .i64 (0 : Int))), (.v (.int .i64 (0 : Int))), (.v (.int .i64 (0 : Int))), (.v (.string (ByteArray.mk #[]))), (.v (.string (ByteArray.mk #[]))), (.v (.int .i64 (0 : Int)))]), some (.box 38 [(.v (.int .i64 z.2.1)), (.own 4), (.v (.int .i64 z.2.2.1)), (.v (.int .i64 z.2.2.2.1)), (.v (.int .i64 z.2.2.2.2.1))]), some (.box 40 [(.v (.int .i64 z.2.2.2.2.2.1)), (.own 4), (.v (.int .i64 z.2.2.2.2.2.2.1)), (.v (.int .i64 z.2.2.2.2.2.2.2.1)), (.v (.int .i64 z.2.2.2.2.2.2.2.2.1)), (.v (.string a0.2.1.1)), (.v (.string a0.2.1.2.1)), (.v (.int .i64 a0.2.1.2.2.1))]), some (.arr 96 ty_Slot z.2.2.2.2.2.2.2.2.2)]⟩ ?_ ?_; (replace H := hz)))
        | ((repeat first | replace H := grd_k H | replace H := out_step H ‹_›); have H := Option.some.inj H; subst H; with_reducible refine sub_auto ?_)
        | ((with_reducible refine fin_mk ?_); (repeat first | replace H := grd_k H | replace H := out_step H ‹_›); have H := Option.some.inj H; subst H))
    | constructor
def G37 : Env := G36.add 114 [true] spec_l28Make.S
theorem G37_ok : EnvOk Tryz.prog G37 := G36_ok.add ent_114 fun ar h r h1 ⟨a0, a1, a2, y, hy, e1, e2, e3, e4⟩ => by
  subst e3 e4; exact (spec_l28Make.spec a0 a1 a2 y hy).le e1 e2
attribute [local irreducible] spec_l28Make

noncomputable def spec_l25Sum_loop1 (a0 : Ropeway) (v4 : Int) (v5 : Int) (v6 : Int) : Option (Lp (Int × Int × Int) ((Int × Int))) :=
  (cond (decide (v6 < (a0.2.1.length : Int))) (grd (0 ≤ v6 ∧ v6 < (a0.2.1.length : Int)) (cond (!decide (v6 = (0 : Int))) (grd ((2 : Int) ≠ 0) (cond (!decide (v6 = (w64 (Int.tdiv (a0.2.1.length : Int) (2 : Int))))) (grd (0 ≤ v6 ∧ v6 < (a0.2.1.length : Int)) (some (.go ((w64 (v4 + ((a0.2.1.getD v6.toNat d_Slot).2.2.1))), (w64 (v5 + ((a0.2.1.getD v6.toNat d_Slot).2.2.1))), (w64 (v6 + (1 : Int))))))) (some (.go ((w64 (v4 + ((a0.2.1.getD v6.toNat d_Slot).2.2.1))), v5, (w64 (v6 + (1 : Int)))))))) (some (.go ((w64 (v4 + ((a0.2.1.getD v6.toNat d_Slot).2.2.1))), v5, (w64 (v6 + (1 : Int)))))))) ((some (.out (v4, v5)))))
noncomputable def spec_l25Sum (a0 : Ropeway) : Option (Int × Int) :=
  ((iter (fun s => spec_l25Sum_loop1 a0 s.1 s.2.1 s.2.2) ((0 : Int), (0 : Int), (0 : Int))).bind (fun r7 => (some (r7.1, r7.2))))
def spec_l25Sum.res (_ : Ropeway) (y : Int × Int) : AV := (.tup [(.v (.int .i64 y.1)), (.v (.int .i64 y.2))])
def spec_l25Sum.out (_ : Ropeway) (_ : Int × Int) : List (Option LB) := []
def spec_l25Sum.S (ar : List AV) (h : List (Option LB)) (r : AV) (h1 : List (Option LB)) : Prop := ∃ a0 y, spec_l25Sum a0 = some y ∧ leL ar [(.agg [(.v (.int .i64 a0.1)), (.tree ty_Slot a0.2.1), (.v (.int .i64 a0.2.2.1)), (.v (.int .i64 a0.2.2.2.1)), (.v (.int .i64 a0.2.2.2.2.1))])] ∧ leH h [] ∧ r = spec_l25Sum.res a0 y ∧ h1 = spec_l25Sum.out a0 y
theorem spec_l25Sum.call {ar : List AV} {h : List (Option LB)} {a0 : Ropeway} {y : Int × Int} (H : spec_l25Sum a0 = some y) (h0 : leLk ar [(.agg [(.v (.int .i64 a0.1)), (.tree ty_Slot a0.2.1), (.v (.int .i64 a0.2.2.1)), (.v (.int .i64 a0.2.2.2.1)), (.v (.int .i64 a0.2.2.2.2.1))])] (leHk h [])) : spec_l25Sum.S ar h (spec_l25Sum.res a0 y) (spec_l25Sum.out a0 y) := ⟨a0, y, H, (args_ok h0).1, (args_ok h0).2, rfl, rfl⟩
theorem spec_l25Sum.spec (a0 : Ropeway) (y : Int × Int) (H : spec_l25Sum a0 = some y) : Spec Tryz.prog 115 [(.agg [(.v (.int .i64 a0.1)), (.tree ty_Slot a0.2.1), (.v (.int .i64 a0.2.2.1)), (.v (.int .i64 a0.2.2.2.1)), (.v (.int .i64 a0.2.2.2.2.1))])] [] (spec_l25Sum.res a0 y) (spec_l25Sum.out a0 y) := by
  refine spec_intro (G37_ok.at tok []) (ct := [(4, some [1, 4, 5, 6, 25, 26, 27, 28, 29, 30]), (6, some [1, 4, 5, 6, 25, 26, 27, 28, 29, 30])]) Tryz.func115 rfl (by kernel_rfl) (by kernel_rfl) rfl ?_
  repeat' first
    | ((with_reducible refine eqg ?_); exact rfl)
    | ((with_reducible refine KOb.mk ?_); kernel_rfl)
    | ((with_reducible intro h); (repeat first | replace H := grd_k H | replace H := out_step H ‹_›); first | replace H := cond_t h H | replace H := cond_f h H | exact absurd h (by decide) | skip)
    | ((with_reducible refine Ob.mk ?_); first | (with_reducible rfl) | (first | ((repeat (first | (with_reducible exact grd_p H) | replace H := grd_k H | replace H := out_step H ‹_›)); done) | rfl | ((repeat (first | exact grd_p H | (have hp := grd_p H; exact hp) | replace H := grd_k H | replace H := out_step H ‹_› | (replace H := bind_some H; obtain ⟨_, _, H⟩ := H))); done) | (repeat (first | exact grd_p H | replace H := grd_k H | replace H := out_step H ‹_›))))
    | (with_reducible exact True.intro)
    | ((conv => whnf); first
        | (with_reducible refine And.intro ?_ ?_)
        | (with_reducible exact True.intro)
        | (with_reducible refine (?_ : Ob _))
        | ((repeat first | replace H := grd_k H | replace H := out_step H ‹_›); refine loop_iter (G37_ok.at tok []) (ct := [(4, some [1, 4, 5, 6, 25, 26, 27, 28, 29, 30]), (6, some [1, 4, 5, 6, 25, 26, 27, 28, 29, 30])]) (F := (fun s1 : Int × Int × Int => ⟨sl [(1, (.loc 0 0 0)), (4, (.v (.int .i64 s1.1))), (5, (.v (.int .i64 s1.2.1))), (6, (.v (.int .i64 s1.2.2)))], [some (.box 38 [(.v (.int .i64 a0.1)), (.tree ty_Slot a0.2.1), (.v (.int .i64 a0.2.2.1)), (.v (.int .i64 a0.2.2.2.1)), (.v (.int .i64 a0.2.2.2.2.1))])]⟩)) (step := (fun s : Int × Int × Int => spec_l25Sum_loop1 _ s.1 s.2.1 s.2.2)) _ H (by kernel_rfl) (sub_auto ?_) ?_; rotate_left; (intro s1 r v hr H); rotate_right)
        | ((repeat first | replace H := grd_k H | replace H := out_step H ‹_›); refine again_step H (by assumption) (sub_auto ?_))
        | ((with_reducible refine fin_mk ?_); (repeat first | replace H := grd_k H | replace H := out_step H ‹_›); have H := Option.some.inj H; subst H))
    | constructor
def G38 : Env := G37.add 115 [] spec_l25Sum.S
theorem G38_ok : EnvOk Tryz.prog G38 := G37_ok.add ent_115 fun ar h r h1 ⟨a0, y, hy, e1, e2, e3, e4⟩ => by
  subst e3 e4; exact (spec_l25Sum.spec a0 y hy).le e1 e2
attribute [local irreducible] spec_l25Sum

noncomputable def spec_IsCleared (a0 : Ropeway) : Option (Bool × Bool) :=
  ((spec_l25Good (a0.1, a0.2.1, a0.2.2.1, a0.2.2.2.1, a0.2.2.2.2.1, ())).bind fun y1 => (cond (!y1) ((some (false, false))) ((spec_l25Sum (a0.1, a0.2.1, a0.2.2.1, a0.2.2.2.1, a0.2.2.2.2.1, ())).bind fun y2 => (cond (decide (a0.2.2.2.1 = (0 : Int))) ((some ((decide (y2.1 = (0 : Int))), true))) ((some (false, true)))))))
def spec_IsCleared.res (_ : Ropeway) (y : Bool × Bool) : AV := (.tup [(.bl y.1), (.bl y.2)])
def spec_IsCleared.out (_ : Ropeway) (_ : Bool × Bool) : List (Option LB) := []
def spec_IsCleared.S (ar : List AV) (h : List (Option LB)) (r : AV) (h1 : List (Option LB)) : Prop := ∃ a0 y, spec_IsCleared a0 = some y ∧ leL ar [(.agg [(.v (.int .i64 a0.1)), (.tree ty_Slot a0.2.1), (.v (.int .i64 a0.2.2.1)), (.v (.int .i64 a0.2.2.2.1)), (.v (.int .i64 a0.2.2.2.2.1))])] ∧ leH h [] ∧ r = spec_IsCleared.res a0 y ∧ h1 = spec_IsCleared.out a0 y
theorem spec_IsCleared.call {ar : List AV} {h : List (Option LB)} {a0 : Ropeway} {y : Bool × Bool} (H : spec_IsCleared a0 = some y) (h0 : leLk ar [(.agg [(.v (.int .i64 a0.1)), (.tree ty_Slot a0.2.1), (.v (.int .i64 a0.2.2.1)), (.v (.int .i64 a0.2.2.2.1)), (.v (.int .i64 a0.2.2.2.2.1))])] (leHk h [])) : spec_IsCleared.S ar h (spec_IsCleared.res a0 y) (spec_IsCleared.out a0 y) := ⟨a0, y, H, (args_ok h0).1, (args_ok h0).2, rfl, rfl⟩
theorem spec_IsCleared.spec (a0 : Ropeway) (y : Bool × Bool) (H : spec_IsCleared a0 = some y) : Spec Tryz.prog 118 [(.agg [(.v (.int .i64 a0.1)), (.tree ty_Slot a0.2.1), (.v (.int .i64 a0.2.2.1)), (.v (.int .i64 a0.2.2.2.1)), (.v (.int .i64 a0.2.2.2.2.1))])] [] (spec_IsCleared.res a0 y) (spec_IsCleared.out a0 y) := by
  refine spec_intro (G38_ok.at tok []) (ct := [(4, some [1, 4, 18, 19])]) Tryz.func118 rfl (by kernel_rfl) (by kernel_rfl) rfl ?_
  repeat' first
    | ((with_reducible refine eqg ?_); exact rfl)
    | ((with_reducible refine KOb.mk ?_); kernel_rfl)
    | ((with_reducible intro h); (repeat first | replace H := grd_k H | replace H := out_step H ‹_›); first | replace H := cond_t h H | replace H := cond_f h H | exact absurd h (by decide) | skip)
    | ((with_reducible refine Ob.mk ?_); first | (with_reducible rfl) | (first | ((repeat (first | (with_reducible exact grd_p H) | replace H := grd_k H | replace H := out_step H ‹_›)); done) | rfl | ((repeat (first | exact grd_p H | (have hp := grd_p H; exact hp) | replace H := grd_k H | replace H := out_step H ‹_› | (replace H := bind_some H; obtain ⟨_, _, H⟩ := H))); done) | (repeat (first | exact grd_p H | replace H := grd_k H | replace H := out_step H ‹_›))))
    | (with_reducible exact True.intro)
    | ((conv => whnf); first
        | (with_reducible refine And.intro ?_ ?_)
        | (with_reducible exact True.intro)
        | (with_reducible refine (?_ : Ob _))
        | ((with_reducible refine CallW.mk ?_); (repeat first | replace H := grd_k H | replace H := out_step H ‹_›); replace H := bind_some H; obtain ⟨y, hy, H⟩ := H; first | ((with_reducible have hz : spec_l25Good _ = some y := hy); clear hz; refine ⟨_, _, spec_l25Good.call hy ?_, rfl, rfl, ?_⟩) | ((with_reducible have hz : spec_l25Sum _ = some y := hy); clear hz; refine ⟨_, _, spec_l25Sum.call hy ?_, rfl, rfl, ?_⟩))
        | ((with_reducible refine fin_mk ?_); (repeat first | replace H := grd_k H | replace H := out_step H ‹_›); have H := Option.some.inj H; subst H))
    | constructor
def G39 : Env := G38.add 118 [] spec_IsCleared.S
theorem G39_ok : EnvOk Tryz.prog G39 := G38_ok.add ent_118 fun ar h r h1 ⟨a0, y, hy, e1, e2, e3, e4⟩ => by
  subst e3 e4; exact (spec_IsCleared.spec a0 y hy).le e1 e2
attribute [local irreducible] spec_IsCleared

noncomputable def spec_l28Word (a0 : Console) (a1 : ByteArray) : Option ((Console × ByteArray × (List Slot)) ⊕ (Console × ByteArray × (List Slot))) :=
  (cond (decide (a1 = (ByteArray.mk #[115, 116, 111, 112]))) ((spec_l28Make ((a0.1.1, a0.1.2.1, a0.1.2.2.1, a0.1.2.2.2.1, a0.1.2.2.2.2.1, ()), (a0.2.1.1, a0.2.1.2.1, a0.2.1.2.2.1, ()), ()) (1 : Int) (0 : Int)).bind (Sum.elim (fun y2 => (some (Sum.inl (((y2.1.1.1, y2.2.2, y2.1.1.2.2.1, y2.1.1.2.2.2.1, y2.1.1.2.2.2.2.1, ()), (y2.1.2.1.1, y2.1.2.1.2.1, y2.1.2.1.2.2.1, ()), ()), y2.2.1, y2.2.2)))) (fun y3 => (some (Sum.inr (((y3.1.1.1, y3.1.1.2.1, y3.1.1.2.2.1, y3.1.1.2.2.2.1, y3.1.1.2.2.2.2.1, ()), (y3.1.2.1.1, y3.1.2.1.2.1, y3.1.2.1.2.2.1, ()), ()), y3.2.1, y3.2.2)))))) (cond (decide (a1 = (ByteArray.mk #[115, 108, 111, 119]))) ((spec_l28Make ((a0.1.1, a0.1.2.1, a0.1.2.2.1, a0.1.2.2.2.1, a0.1.2.2.2.2.1, ()), (a0.2.1.1, a0.2.1.2.1, a0.2.1.2.2.1, ()), ()) (1 : Int) (1 : Int)).bind (Sum.elim (fun y5 => (some (Sum.inl (((y5.1.1.1, y5.2.2, y5.1.1.2.2.1, y5.1.1.2.2.2.1, y5.1.1.2.2.2.2.1, ()), (y5.1.2.1.1, y5.1.2.1.2.1, y5.1.2.1.2.2.1, ()), ()), y5.2.1, y5.2.2)))) (fun y6 => (some (Sum.inr (((y6.1.1.1, y6.1.1.2.1, y6.1.1.2.2.1, y6.1.1.2.2.2.1, y6.1.1.2.2.2.2.1, ()), (y6.1.2.1.1, y6.1.2.1.2.1, y6.1.2.1.2.2.1, ()), ()), y6.2.1, y6.2.2)))))) (cond (decide (a1 = (ByteArray.mk #[102, 97, 115, 116]))) ((spec_l28Make ((a0.1.1, a0.1.2.1, a0.1.2.2.1, a0.1.2.2.2.1, a0.1.2.2.2.2.1, ()), (a0.2.1.1, a0.2.1.2.1, a0.2.1.2.2.1, ()), ()) (1 : Int) (2 : Int)).bind (Sum.elim (fun y8 => (some (Sum.inl (((y8.1.1.1, y8.2.2, y8.1.1.2.2.1, y8.1.1.2.2.2.1, y8.1.1.2.2.2.2.1, ()), (y8.1.2.1.1, y8.1.2.1.2.1, y8.1.2.1.2.2.1, ()), ()), y8.2.1, y8.2.2)))) (fun y9 => (some (Sum.inr (((y9.1.1.1, y9.1.1.2.1, y9.1.1.2.2.1, y9.1.1.2.2.2.1, y9.1.1.2.2.2.2.1, ()), (y9.1.2.1.1, y9.1.2.1.2.1, y9.1.2.1.2.2.1, ()), ()), y9.2.1, y9.2.2)))))) (cond (decide (a1 = (ByteArray.mk #[108, 111, 99, 107]))) ((spec_l28Make ((a0.1.1, a0.1.2.1, a0.1.2.2.1, a0.1.2.2.2.1, a0.1.2.2.2.2.1, ()), (a0.2.1.1, a0.2.1.2.1, a0.2.1.2.2.1, ()), ()) (1 : Int) (3 : Int)).bind (Sum.elim (fun y11 => (some (Sum.inl (((y11.1.1.1, y11.2.2, y11.1.1.2.2.1, y11.1.1.2.2.2.1, y11.1.1.2.2.2.2.1, ()), (y11.1.2.1.1, y11.1.2.1.2.1, y11.1.2.1.2.2.1, ()), ()), y11.2.1, y11.2.2)))) (fun y12 => (some (Sum.inr (((y12.1.1.1, y12.1.1.2.1, y12.1.1.2.2.1, y12.1.1.2.2.2.1, y12.1.1.2.2.2.2.1, ()), (y12.1.2.1.1, y12.1.2.1.2.1, y12.1.2.1.2.2.1, ()), ()), y12.2.1, y12.2.2)))))) (cond (decide (a1 = (ByteArray.mk #[116, 117, 114, 110]))) ((spec_l28Make ((a0.1.1, a0.1.2.1, a0.1.2.2.1, a0.1.2.2.2.1, a0.1.2.2.2.2.1, ()), (a0.2.1.1, a0.2.1.2.1, a0.2.1.2.2.1, ()), ()) (2 : Int) (0 : Int)).bind (Sum.elim (fun y14 => (some (Sum.inl (((y14.1.1.1, y14.2.2, y14.1.1.2.2.1, y14.1.1.2.2.2.1, y14.1.1.2.2.2.2.1, ()), (y14.1.2.1.1, y14.1.2.1.2.1, y14.1.2.1.2.2.1, ()), ()), y14.2.1, y14.2.2)))) (fun y15 => (some (Sum.inr (((y15.1.1.1, y15.1.1.2.1, y15.1.1.2.2.1, y15.1.1.2.2.2.1, y15.1.1.2.2.2.2.1, ()), (y15.1.2.1.1, y15.1.2.1.2.1, y15.1.2.1.2.2.1, ()), ()), y15.2.1, y15.2.2)))))) (cond (decide (a1 = (ByteArray.mk #[116, 97, 107, 101]))) ((spec_l28Make ((a0.1.1, a0.1.2.1, a0.1.2.2.1, a0.1.2.2.2.1, a0.1.2.2.2.2.1, ()), (a0.2.1.1, a0.2.1.2.1, a0.2.1.2.2.1, ()), ()) (4 : Int) (0 : Int)).bind (Sum.elim (fun y17 => (some (Sum.inl (((y17.1.1.1, y17.2.2, y17.1.1.2.2.1, y17.1.1.2.2.2.1, y17.1.1.2.2.2.2.1, ()), (y17.1.2.1.1, y17.1.2.1.2.1, y17.1.2.1.2.2.1, ()), ()), y17.2.1, y17.2.2)))) (fun y18 => (some (Sum.inr (((y18.1.1.1, y18.1.1.2.1, y18.1.1.2.2.1, y18.1.1.2.2.2.1, y18.1.1.2.2.2.2.1, ()), (y18.1.2.1.1, y18.1.2.1.2.1, y18.1.2.1.2.2.1, ()), ()), y18.2.1, y18.2.2)))))) (cond (decide (a1 = (ByteArray.mk #[112, 101, 111, 112, 108, 101]))) ((spec_l25Sum (a0.1.1, a0.1.2.1, a0.1.2.2.1, a0.1.2.2.2.1, a0.1.2.2.2.2.1, ())).bind fun y19 => ((spec_l28List [a0.1.2.2.1, y19.1, a0.1.2.2.2.1, a0.1.2.2.2.2.1] true).bind fun y20 => (some (Sum.inl (((a0.1.1, a0.1.2.1, a0.1.2.2.1, a0.1.2.2.2.1, a0.1.2.2.2.2.1, ()), (a0.2.1.1, a0.2.1.2.1, a0.2.1.2.2.1, ()), ()), y20, a0.1.2.1))))) (cond (decide (a1 = (ByteArray.mk #[100, 111, 111, 114, 115]))) ((spec_l25Open (a0.1.1, a0.1.2.1, a0.1.2.2.1, a0.1.2.2.2.1, a0.1.2.2.2.2.1, ())).bind fun y21 => ((spec_l28List y21 true).bind fun y22 => (some (Sum.inl (((a0.1.1, a0.1.2.1, a0.1.2.2.1, a0.1.2.2.2.1, a0.1.2.2.2.2.1, ()), (a0.2.1.1, a0.2.1.2.1, a0.2.1.2.2.1, ()), ()), y22, a0.1.2.1))))) (cond (decide (a1 = (ByteArray.mk #[99, 108, 101, 97, 114]))) ((spec_IsCleared (a0.1.1, a0.1.2.1, a0.1.2.2.1, a0.1.2.2.2.1, a0.1.2.2.2.2.1, ())).bind fun y23 => (cond y23.1 ((some (Sum.inl (((a0.1.1, a0.1.2.1, a0.1.2.2.1, a0.1.2.2.2.1, a0.1.2.2.2.2.1, ()), (a0.2.1.1, a0.2.1.2.1, a0.2.1.2.2.1, ()), ()), (ByteArray.mk #[121, 101, 115]), a0.1.2.1)))) ((some (Sum.inl (((a0.1.1, a0.1.2.1, a0.1.2.2.1, a0.1.2.2.2.1, a0.1.2.2.2.2.1, ()), (a0.2.1.1, a0.2.1.2.1, a0.2.1.2.2.1, ()), ()), (ByteArray.mk #[110, 111]), a0.1.2.1)))))) ((some (Sum.inl (((a0.1.1, a0.1.2.1, a0.1.2.2.1, a0.1.2.2.2.1, a0.1.2.2.2.2.1, ()), (a0.2.1.1, a0.2.1.2.1, a0.2.1.2.2.1, ()), ()), (ByteArray.mk #[63]), a0.1.2.1)))))))))))))
def spec_l28Word.res (_ : Console) (_ : ByteArray) (y : (Console × ByteArray × (List Slot)) ⊕ (Console × ByteArray × (List Slot))) : AV := match y with
  | (.inl y) => (.tup [(.agg [(.v (.int .i64 y.1.1.1)), (.own 0), (.v (.int .i64 y.1.1.2.2.1)), (.v (.int .i64 y.1.1.2.2.2.1)), (.v (.int .i64 y.1.1.2.2.2.2.1)), (.v (.string y.1.2.1.1)), (.v (.string y.1.2.1.2.1)), (.v (.int .i64 y.1.2.1.2.2.1))]), (.v (.string y.2.1))])
  | (.inr y) => (.tup [(.agg [(.v (.int .i64 y.1.1.1)), (.own 1), (.v (.int .i64 y.1.1.2.2.1)), (.v (.int .i64 y.1.1.2.2.2.1)), (.v (.int .i64 y.1.1.2.2.2.2.1)), (.v (.string y.1.2.1.1)), (.v (.string y.1.2.1.2.1)), (.v (.int .i64 y.1.2.1.2.2.1))]), (.v (.string y.2.1))])
def spec_l28Word.out (_ : Console) (_ : ByteArray) (y : (Console × ByteArray × (List Slot)) ⊕ (Console × ByteArray × (List Slot))) : List (Option LB) := match y with
  | (.inl y) => [some (.arr 96 ty_Slot y.2.2)]
  | (.inr y) => [some (.arr 96 ty_Slot y.2.2), some (.arr 96 ty_Slot y.1.1.2.1)]
def spec_l28Word.S (ar : List AV) (h : List (Option LB)) (r : AV) (h1 : List (Option LB)) : Prop := ∃ a0 a1 y, spec_l28Word a0 a1 = some y ∧ leL ar [(.agg [(.v (.int .i64 a0.1.1)), (.own 0), (.v (.int .i64 a0.1.2.2.1)), (.v (.int .i64 a0.1.2.2.2.1)), (.v (.int .i64 a0.1.2.2.2.2.1)), (.v (.string a0.2.1.1)), (.v (.string a0.2.1.2.1)), (.v (.int .i64 a0.2.1.2.2.1))]), (.v (.string a1))] ∧ leH h [some (.arr 96 ty_Slot a0.1.2.1)] ∧ r = spec_l28Word.res a0 a1 y ∧ h1 = spec_l28Word.out a0 a1 y
theorem spec_l28Word.call {ar : List AV} {h : List (Option LB)} {a0 : Console} {a1 : ByteArray} {y : (Console × ByteArray × (List Slot)) ⊕ (Console × ByteArray × (List Slot))} (H : spec_l28Word a0 a1 = some y) (h0 : leLk ar [(.agg [(.v (.int .i64 a0.1.1)), (.own 0), (.v (.int .i64 a0.1.2.2.1)), (.v (.int .i64 a0.1.2.2.2.1)), (.v (.int .i64 a0.1.2.2.2.2.1)), (.v (.string a0.2.1.1)), (.v (.string a0.2.1.2.1)), (.v (.int .i64 a0.2.1.2.2.1))]), (.v (.string a1))] (leHk h [some (.arr 96 ty_Slot a0.1.2.1)])) : spec_l28Word.S ar h (spec_l28Word.res a0 a1 y) (spec_l28Word.out a0 a1 y) := ⟨a0, a1, y, H, (args_ok h0).1, (args_ok h0).2, rfl, rfl⟩
theorem spec_l28Word.spec (a0 : Console) (a1 : ByteArray) (y : (Console × ByteArray × (List Slot)) ⊕ (Console × ByteArray × (List Slot))) (H : spec_l28Word a0 a1 = some y) : Spec Tryz.prog 79 [(.agg [(.v (.int .i64 a0.1.1)), (.own 0), (.v (.int .i64 a0.1.2.2.1)), (.v (.int .i64 a0.1.2.2.2.1)), (.v (.int .i64 a0.1.2.2.2.2.1)), (.v (.string a0.2.1.1)), (.v (.string a0.2.1.2.1)), (.v (.int .i64 a0.2.1.2.2.1))]), (.v (.string a1))] [some (.arr 96 ty_Slot a0.1.2.1)] (spec_l28Word.res a0 a1 y) (spec_l28Word.out a0 a1 y) := by
  have hlen : Nat.ble ([some (.arr 96 ty_Slot a0.1.2.1)] : List (Option LB)).length (spec_l28Word.out a0 a1 y).length = true := by
    rcases y with y | y <;> rfl
  refine spec_intro (G39_ok.at tok []) (ct := [(10, some [2, 4, 6, 13, 32]), (22, some [2, 4, 9]), (25, some [2, 4])]) Tryz.func79 rfl (by kernel_rfl) (by kernel_rfl) hlen ?_
  repeat' first
    | ((with_reducible refine eqg ?_); exact rfl)
    | ((with_reducible refine KOb.mk ?_); kernel_rfl)
    | ((with_reducible intro h); (repeat first | replace H := grd_k H | replace H := out_step H ‹_›); first | replace H := cond_t h H | replace H := cond_f h H | exact absurd h (by decide) | skip)
    | ((with_reducible refine Ob.mk ?_); first | (with_reducible rfl) | (first | ((repeat (first | (with_reducible exact grd_p H) | replace H := grd_k H | replace H := out_step H ‹_›)); done) | rfl | ((repeat (first | exact grd_p H | (have hp := grd_p H; exact hp) | replace H := grd_k H | replace H := out_step H ‹_› | (replace H := bind_some H; obtain ⟨_, _, H⟩ := H))); done) | (repeat (first | exact grd_p H | replace H := grd_k H | replace H := out_step H ‹_›))))
    | (with_reducible exact True.intro)
    | ((conv => whnf); first
        | (with_reducible refine And.intro ?_ ?_)
        | (with_reducible exact True.intro)
        | (with_reducible refine (?_ : Ob _))
        | ((with_reducible refine CallW.mk ?_); (repeat first | replace H := grd_k H | replace H := out_step H ‹_›); replace H := bind_some H; obtain ⟨y, hy, H⟩ := H; first | ((with_reducible have hz : spec_l28Make _ _ _ = some y := hy); clear hz; rcases y with y | y <;> refine ⟨_, _, spec_l28Make.call hy ?_, rfl, rfl, ?_⟩) | ((with_reducible have hz : spec_l25Sum _ = some y := hy); clear hz; refine ⟨_, _, spec_l25Sum.call hy ?_, rfl, rfl, ?_⟩) | ((with_reducible have hz : spec_l28List _ _ = some y := hy); clear hz; refine ⟨_, _, spec_l28List.call hy ?_, rfl, rfl, ?_⟩) | ((with_reducible have hz : spec_l25Open _ = some y := hy); clear hz; refine ⟨_, _, spec_l25Open.call hy ?_, rfl, rfl, ?_⟩) | ((with_reducible have hz : spec_IsCleared _ = some y := hy); clear hz; refine ⟨_, _, spec_IsCleared.call hy ?_, rfl, rfl, ?_⟩))
        | ((with_reducible refine fin_mk ?_); (repeat first | replace H := grd_k H | replace H := out_step H ‹_›); have H := Option.some.inj H; subst H))
    | constructor
def G40 : Env := G39.add 79 [true] spec_l28Word.S
theorem G40_ok : EnvOk Tryz.prog G40 := G39_ok.add ent_79 fun ar h r h1 ⟨a0, a1, y, hy, e1, e2, e3, e4⟩ => by
  subst e3 e4; exact (spec_l28Word.spec a0 a1 y hy).le e1 e2
attribute [local irreducible] spec_l28Word

noncomputable def spec_l1Read_loop1  (v8 : ByteArray) (v9 : Int) (v10 : Int) : Option (Lp (ByteArray × Int × Int) ((Unit) ⊕ (ByteArray × Int))) :=
  (cond (decide (v10 < (v8.size : Int))) (grd (0 ≤ v10 ∧ v10 < (v8.size : Int)) (cond (decide ((bAt v8 v10) < (48 : Int))) ((some (.out (Sum.inl ())))) (grd (0 ≤ v10 ∧ v10 < (v8.size : Int)) (cond (decide ((57 : Int) < (bAt v8 v10))) ((some (.out (Sum.inl ())))) (grd (0 ≤ v10 ∧ v10 < (v8.size : Int)) (some (.go (v8, (w64 ((w64 ((10 : Int) * v9)) + (w64 (wu8 ((bAt v8 v10) - (48 : Int)))))), (w64 (v10 + (1 : Int))))))))))) ((some (.out (Sum.inr (v8, v9))))))
noncomputable def spec_l1Read (a0 : ByteArray) : Option (Int × Bool) :=
  ((cond (decide ((1 : Int) < (a0.size : Int))) (grd (0 ≤ (0 : Int) ∧ (0 : Int) < (a0.size : Int)) (cond (decide ((bAt a0 (0 : Int)) = (45 : Int))) (grd (0 ≤ (1 : Int) ∧ (1 : Int) ≤ (a0.size : Int) ∧ (a0.size : Int) ≤ (a0.size : Int)) ((some (bsub a0 (1 : Int) (a0.size : Int))))) ((some a0)))) ((some a0))).bind fun z1 => ((spec_l1In (z1.size : Int) (1 : Int) (6 : Int)).bind fun y2 => (cond (!y2) ((some ((0 : Int), false))) ((iter (fun s => spec_l1Read_loop1 s.1 s.2.1 s.2.2) (z1, (0 : Int), (0 : Int))).bind (Sum.elim (fun _ => (some ((0 : Int), false))) (fun r13 => (cond (decide ((r13.1.size : Int) < (a0.size : Int))) ((spec_l1Num (w64 (0 - r13.2))).bind fun y14 => (cond (!decide (y14 = a0)) ((some ((0 : Int), false))) ((some ((w64 (0 - r13.2)), true))))) ((spec_l1Num r13.2).bind fun y15 => (cond (!decide (y15 = a0)) ((some ((0 : Int), false))) ((some (r13.2, true))))))))))))
def spec_l1Read.res (_ : ByteArray) (y : Int × Bool) : AV := (.tup [(.v (.int .i64 y.1)), (.bl y.2)])
def spec_l1Read.out (_ : ByteArray) (_ : Int × Bool) : List (Option LB) := []
def spec_l1Read.S (ar : List AV) (h : List (Option LB)) (r : AV) (h1 : List (Option LB)) : Prop := ∃ a0 y, spec_l1Read a0 = some y ∧ leL ar [(.v (.string a0))] ∧ leH h [] ∧ r = spec_l1Read.res a0 y ∧ h1 = spec_l1Read.out a0 y
theorem spec_l1Read.call {ar : List AV} {h : List (Option LB)} {a0 : ByteArray} {y : Int × Bool} (H : spec_l1Read a0 = some y) (h0 : leLk ar [(.v (.string a0))] (leHk h [])) : spec_l1Read.S ar h (spec_l1Read.res a0 y) (spec_l1Read.out a0 y) := ⟨a0, y, H, (args_ok h0).1, (args_ok h0).2, rfl, rfl⟩
theorem spec_l1Read.spec (a0 : ByteArray) (y : Int × Bool) (H : spec_l1Read a0 = some y) : Spec Tryz.prog 119 [(.v (.string a0))] [] (spec_l1Read.res a0 y) (spec_l1Read.out a0 y) := by
  refine spec_intro (G40_ok.at tok []) (ct := [(4, none), (11, some [0, 4, 5, 6, 33, 34, 35, 36, 37]), (14, some [0, 5, 50])]) Tryz.func119 rfl (by kernel_rfl) (by kernel_rfl) rfl ?_
  repeat' first
    | ((with_reducible refine eqg ?_); exact rfl)
    | ((with_reducible refine KOb.mk ?_); kernel_rfl)
    | ((with_reducible intro h); (repeat first | replace H := grd_k H | replace H := out_step H ‹_›); first | replace H := cond_t h H | replace H := cond_f h H | exact absurd h (by decide) | skip)
    | ((with_reducible refine Ob.mk ?_); first | (with_reducible rfl) | (first | ((repeat (first | (with_reducible exact grd_p H) | replace H := grd_k H | replace H := out_step H ‹_›)); done) | rfl | ((repeat (first | exact grd_p H | (have hp := grd_p H; exact hp) | replace H := grd_k H | replace H := out_step H ‹_› | (replace H := bind_some H; obtain ⟨_, _, H⟩ := H))); done) | (repeat (first | exact grd_p H | replace H := grd_k H | replace H := out_step H ‹_›))))
    | (with_reducible exact True.intro)
    | ((conv => whnf); first
        | (with_reducible refine And.intro ?_ ?_)
        | (with_reducible exact True.intro)
        | (with_reducible refine (?_ : Ob _))
        | ((with_reducible refine CallW.mk ?_); (repeat first | replace H := grd_k H | replace H := out_step H ‹_›); replace H := bind_some H; obtain ⟨y, hy, H⟩ := H; first | ((with_reducible have hz : spec_l1In _ _ _ = some y := hy); clear hz; refine ⟨_, _, spec_l1In.call hy ?_, rfl, rfl, ?_⟩) | ((with_reducible have hz : spec_l1Num _ = some y := hy); clear hz; refine ⟨_, _, spec_l1Num.call hy ?_, rfl, rfl, ?_⟩))
        | ((repeat first | replace H := grd_k H | replace H := out_step H ‹_›); refine loop_iter (G40_ok.at tok []) (ct := [(4, none), (11, some [0, 4, 5, 6, 33, 34, 35, 36, 37]), (14, some [0, 5, 50])]) (F := (fun s1 : ByteArray × Int × Int => ⟨sl [(0, (.v (.string a0))), (4, (.v (.string s1.1))), (5, (.v (.int .i64 s1.2.1))), (6, (.v (.int .i64 s1.2.2)))], []⟩)) (step := (fun s : ByteArray × Int × Int => spec_l1Read_loop1 s.1 s.2.1 s.2.2)) _ H (by kernel_rfl) (sub_auto ?_) ?_; rotate_left; (intro s1 r v hr H); rotate_right)
        | ((with_reducible refine cutAt (id := 4) ?_); (repeat first | replace H := grd_k H | replace H := out_step H ‹_›); first | (replace H := bind_some H; obtain ⟨z, hz, H⟩ := H; refine CutC.mk (id := 4) ⟨sl [(0, (.v (.string a0))), (4, (.v (.string z)))], []⟩ ?_ ?_; (replace H := hz)))
        | ((repeat first | replace H := grd_k H | replace H := out_step H ‹_›); have H := Option.some.inj H; subst H; with_reducible refine sub_auto ?_)
        | ((repeat first | replace H := grd_k H | replace H := out_step H ‹_›); refine again_step H (by assumption) (sub_auto ?_))
        | ((with_reducible refine fin_mk ?_); (repeat first | replace H := grd_k H | replace H := out_step H ‹_›); have H := Option.some.inj H; subst H))
    | constructor
def G41 : Env := G40.add 119 [] spec_l1Read.S
theorem G41_ok : EnvOk Tryz.prog G41 := G40_ok.add ent_119 fun ar h r h1 ⟨a0, y, hy, e1, e2, e3, e4⟩ => by
  subst e3 e4; exact (spec_l1Read.spec a0 y hy).le e1 e2
attribute [local irreducible] spec_l1Read

noncomputable def spec_ParseInt (a0 : ByteArray) : Option (Int × Bool) :=
  ((spec_l1Read a0).bind fun y1 => (some (y1.1, y1.2)))
def spec_ParseInt.res (_ : ByteArray) (y : Int × Bool) : AV := (.tup [(.v (.int .i64 y.1)), (.bl y.2)])
def spec_ParseInt.out (_ : ByteArray) (_ : Int × Bool) : List (Option LB) := []
def spec_ParseInt.S (ar : List AV) (h : List (Option LB)) (r : AV) (h1 : List (Option LB)) : Prop := ∃ a0 y, spec_ParseInt a0 = some y ∧ leL ar [(.v (.string a0))] ∧ leH h [] ∧ r = spec_ParseInt.res a0 y ∧ h1 = spec_ParseInt.out a0 y
theorem spec_ParseInt.call {ar : List AV} {h : List (Option LB)} {a0 : ByteArray} {y : Int × Bool} (H : spec_ParseInt a0 = some y) (h0 : leLk ar [(.v (.string a0))] (leHk h [])) : spec_ParseInt.S ar h (spec_ParseInt.res a0 y) (spec_ParseInt.out a0 y) := ⟨a0, y, H, (args_ok h0).1, (args_ok h0).2, rfl, rfl⟩
theorem spec_ParseInt.spec (a0 : ByteArray) (y : Int × Bool) (H : spec_ParseInt a0 = some y) : Spec Tryz.prog 80 [(.v (.string a0))] [] (spec_ParseInt.res a0 y) (spec_ParseInt.out a0 y) := by
  refine spec_intro (G41_ok.at tok []) (ct := []) Tryz.func80 rfl (by kernel_rfl) (by kernel_rfl) rfl ?_
  repeat' first
    | ((with_reducible refine eqg ?_); exact rfl)
    | ((with_reducible refine KOb.mk ?_); kernel_rfl)
    | ((with_reducible intro h); (repeat first | replace H := grd_k H | replace H := out_step H ‹_›); first | replace H := cond_t h H | replace H := cond_f h H | exact absurd h (by decide) | skip)
    | ((with_reducible refine Ob.mk ?_); first | (with_reducible rfl) | (first | ((repeat (first | (with_reducible exact grd_p H) | replace H := grd_k H | replace H := out_step H ‹_›)); done) | rfl | ((repeat (first | exact grd_p H | (have hp := grd_p H; exact hp) | replace H := grd_k H | replace H := out_step H ‹_› | (replace H := bind_some H; obtain ⟨_, _, H⟩ := H))); done) | (repeat (first | exact grd_p H | replace H := grd_k H | replace H := out_step H ‹_›))))
    | (with_reducible exact True.intro)
    | ((conv => whnf); first
        | (with_reducible refine And.intro ?_ ?_)
        | (with_reducible exact True.intro)
        | (with_reducible refine (?_ : Ob _))
        | ((with_reducible refine CallW.mk ?_); (repeat first | replace H := grd_k H | replace H := out_step H ‹_›); replace H := bind_some H; obtain ⟨y, hy, H⟩ := H; first | ((with_reducible have hz : spec_l1Read _ = some y := hy); clear hz; refine ⟨_, _, spec_l1Read.call hy ?_, rfl, rfl, ?_⟩))
        | ((with_reducible refine fin_mk ?_); (repeat first | replace H := grd_k H | replace H := out_step H ‹_›); have H := Option.some.inj H; subst H))
    | constructor
def G42 : Env := G41.add 80 [] spec_ParseInt.S
theorem G42_ok : EnvOk Tryz.prog G42 := G41_ok.add ent_80 fun ar h r h1 ⟨a0, y, hy, e1, e2, e3, e4⟩ => by
  subst e3 e4; exact (spec_ParseInt.spec a0 y hy).le e1 e2
attribute [local irreducible] spec_ParseInt

end Go.Proofs.YtaobinhdnklojaaGreatDoor
namespace Go.Proofs.YtaobinhdnklojaaGreatDoor
open Go.RowKit
set_option maxHeartbeats 100000000
set_option maxRecDepth 100000
attribute [local irreducible] Ob loopwp Sub Spec Fin Again CallW CutC KOb iter

attribute [local irreducible] spec_l28Own spec_l25Good spec_l1Split spec_l1Num spec_l1Num_f spec_l27Good spec_l27Line spec_l27Log spec_l28Good spec_l25Find spec_l28Make spec_l28Word spec_ParseInt

noncomputable def spec_CabinAt (a0 : Ropeway) (a1 : Int) : Option (Int × Bool) :=
  ((spec_l25Good (a0.1, a0.2.1, a0.2.2.1, a0.2.2.2.1, a0.2.2.2.2.1, ())).bind fun y1 => (cond (!y1) ((some ((0 : Int), false))) (cond (decide (a1 < (1 : Int))) ((some ((0 : Int), false))) ((spec_l25Find (a0.1, a0.2.1, a0.2.2.1, a0.2.2.2.1, a0.2.2.2.2.1, ()) a1).bind fun y2 => (cond (decide (y2 < (0 : Int))) ((some ((0 : Int), false))) ((spec_l25Find (a0.1, a0.2.1, a0.2.2.1, a0.2.2.2.1, a0.2.2.2.2.1, ()) a1).bind fun y3 => (some (y3, true))))))))
def spec_CabinAt.res (_ : Ropeway) (_ : Int) (y : Int × Bool) : AV := (.tup [(.v (.int .i64 y.1)), (.bl y.2)])
def spec_CabinAt.out (_ : Ropeway) (_ : Int) (_ : Int × Bool) : List (Option LB) := []
def spec_CabinAt.S (ar : List AV) (h : List (Option LB)) (r : AV) (h1 : List (Option LB)) : Prop := ∃ a0 a1 y, spec_CabinAt a0 a1 = some y ∧ leL ar [(.agg [(.v (.int .i64 a0.1)), (.tree ty_Slot a0.2.1), (.v (.int .i64 a0.2.2.1)), (.v (.int .i64 a0.2.2.2.1)), (.v (.int .i64 a0.2.2.2.2.1))]), (.v (.int .i64 a1))] ∧ leH h [] ∧ r = spec_CabinAt.res a0 a1 y ∧ h1 = spec_CabinAt.out a0 a1 y
theorem spec_CabinAt.call {ar : List AV} {h : List (Option LB)} {a0 : Ropeway} {a1 : Int} {y : Int × Bool} (H : spec_CabinAt a0 a1 = some y) (h0 : leLk ar [(.agg [(.v (.int .i64 a0.1)), (.tree ty_Slot a0.2.1), (.v (.int .i64 a0.2.2.1)), (.v (.int .i64 a0.2.2.2.1)), (.v (.int .i64 a0.2.2.2.2.1))]), (.v (.int .i64 a1))] (leHk h [])) : spec_CabinAt.S ar h (spec_CabinAt.res a0 a1 y) (spec_CabinAt.out a0 a1 y) := ⟨a0, a1, y, H, (args_ok h0).1, (args_ok h0).2, rfl, rfl⟩
theorem spec_CabinAt.spec (a0 : Ropeway) (a1 : Int) (y : Int × Bool) (H : spec_CabinAt a0 a1 = some y) : Spec Tryz.prog 120 [(.agg [(.v (.int .i64 a0.1)), (.tree ty_Slot a0.2.1), (.v (.int .i64 a0.2.2.1)), (.v (.int .i64 a0.2.2.2.1)), (.v (.int .i64 a0.2.2.2.2.1))]), (.v (.int .i64 a1))] [] (spec_CabinAt.res a0 a1 y) (spec_CabinAt.out a0 a1 y) := by
  refine spec_intro (G42_ok.at tok []) (ct := [(2, some [1, 2, 18])]) Tryz.func120 rfl (by kernel_rfl) (by kernel_rfl) rfl ?_
  repeat' first
    | ((with_reducible refine eqg ?_); exact rfl)
    | ((with_reducible refine KOb.mk ?_); kernel_rfl)
    | ((with_reducible intro h); (repeat first | replace H := grd_k H | replace H := out_step H ‹_›); first | replace H := cond_t h H | replace H := cond_f h H | exact absurd h (by decide) | skip)
    | ((with_reducible refine Ob.mk ?_); first | (with_reducible rfl) | (first | ((repeat (first | (with_reducible exact grd_p H) | replace H := grd_k H | replace H := out_step H ‹_›)); done) | rfl | ((repeat (first | exact grd_p H | (have hp := grd_p H; exact hp) | replace H := grd_k H | replace H := out_step H ‹_› | (replace H := bind_some H; obtain ⟨_, _, H⟩ := H))); done) | (repeat (first | exact grd_p H | replace H := grd_k H | replace H := out_step H ‹_›))))
    | (with_reducible exact True.intro)
    | ((conv => whnf); first
        | (with_reducible refine And.intro ?_ ?_)
        | (with_reducible exact True.intro)
        | (with_reducible refine (?_ : Ob _))
        | ((with_reducible refine CallW.mk ?_); (repeat first | replace H := grd_k H | replace H := out_step H ‹_›); replace H := bind_some H; obtain ⟨y, hy, H⟩ := H; first | ((with_reducible have hz : spec_l25Good _ = some y := hy); clear hz; refine ⟨_, _, spec_l25Good.call hy ?_, rfl, rfl, ?_⟩) | ((with_reducible have hz : spec_l25Find _ _ = some y := hy); clear hz; refine ⟨_, _, spec_l25Find.call hy ?_, rfl, rfl, ?_⟩))
        | ((with_reducible refine fin_mk ?_); (repeat first | replace H := grd_k H | replace H := out_step H ‹_›); have H := Option.some.inj H; subst H))
    | constructor
def G43 : Env := G42.add 120 [] spec_CabinAt.S
theorem G43_ok : EnvOk Tryz.prog G43 := G42_ok.add ent_120 fun ar h r h1 ⟨a0, a1, y, hy, e1, e2, e3, e4⟩ => by
  subst e3 e4; exact (spec_CabinAt.spec a0 a1 y hy).le e1 e2
attribute [local irreducible] spec_CabinAt

noncomputable def spec_TurnsTo (a0 : Ropeway) (a1 : Int) (a2 : Bool) : Option (Int × Bool) :=
  ((spec_CabinAt (a0.1, a0.2.1, a0.2.2.1, a0.2.2.2.1, a0.2.2.2.2.1, ()) a1).bind fun y1 => (cond (!y1.2) ((some ((0 : Int), false))) (cond a2 (grd ((2 : Int) ≠ 0) (grd ((a0.2.1.length : Int) ≠ 0) ((some ((Int.tmod (w64 ((w64 ((w64 (Int.tdiv (a0.2.1.length : Int) (2 : Int))) - y1.1)) + (a0.2.1.length : Int))) (a0.2.1.length : Int)), true))))) (grd ((a0.2.1.length : Int) ≠ 0) ((some ((Int.tmod (w64 ((w64 ((0 : Int) - y1.1)) + (a0.2.1.length : Int))) (a0.2.1.length : Int)), true)))))))
def spec_TurnsTo.res (_ : Ropeway) (_ : Int) (_ : Bool) (y : Int × Bool) : AV := (.tup [(.v (.int .i64 y.1)), (.bl y.2)])
def spec_TurnsTo.out (_ : Ropeway) (_ : Int) (_ : Bool) (_ : Int × Bool) : List (Option LB) := []
def spec_TurnsTo.S (ar : List AV) (h : List (Option LB)) (r : AV) (h1 : List (Option LB)) : Prop := ∃ a0 a1 a2 y, spec_TurnsTo a0 a1 a2 = some y ∧ leL ar [(.agg [(.v (.int .i64 a0.1)), (.tree ty_Slot a0.2.1), (.v (.int .i64 a0.2.2.1)), (.v (.int .i64 a0.2.2.2.1)), (.v (.int .i64 a0.2.2.2.2.1))]), (.v (.int .i64 a1)), (.bl a2)] ∧ leH h [] ∧ r = spec_TurnsTo.res a0 a1 a2 y ∧ h1 = spec_TurnsTo.out a0 a1 a2 y
theorem spec_TurnsTo.call {ar : List AV} {h : List (Option LB)} {a0 : Ropeway} {a1 : Int} {a2 : Bool} {y : Int × Bool} (H : spec_TurnsTo a0 a1 a2 = some y) (h0 : leLk ar [(.agg [(.v (.int .i64 a0.1)), (.tree ty_Slot a0.2.1), (.v (.int .i64 a0.2.2.1)), (.v (.int .i64 a0.2.2.2.1)), (.v (.int .i64 a0.2.2.2.2.1))]), (.v (.int .i64 a1)), (.bl a2)] (leHk h [])) : spec_TurnsTo.S ar h (spec_TurnsTo.res a0 a1 a2 y) (spec_TurnsTo.out a0 a1 a2 y) := ⟨a0, a1, a2, y, H, (args_ok h0).1, (args_ok h0).2, rfl, rfl⟩
theorem spec_TurnsTo.spec (a0 : Ropeway) (a1 : Int) (a2 : Bool) (y : Int × Bool) (H : spec_TurnsTo a0 a1 a2 = some y) : Spec Tryz.prog 121 [(.agg [(.v (.int .i64 a0.1)), (.tree ty_Slot a0.2.1), (.v (.int .i64 a0.2.2.1)), (.v (.int .i64 a0.2.2.2.1)), (.v (.int .i64 a0.2.2.2.2.1))]), (.v (.int .i64 a1)), (.bl a2)] [] (spec_TurnsTo.res a0 a1 a2 y) (spec_TurnsTo.out a0 a1 a2 y) := by
  refine spec_intro (G43_ok.at tok []) (ct := [(4, some [2, 3, 8])]) Tryz.func121 rfl (by kernel_rfl) (by kernel_rfl) rfl ?_
  repeat' first
    | ((with_reducible refine eqg ?_); exact rfl)
    | ((with_reducible refine KOb.mk ?_); kernel_rfl)
    | ((with_reducible intro h); (repeat first | replace H := grd_k H | replace H := out_step H ‹_›); first | replace H := cond_t h H | replace H := cond_f h H | exact absurd h (by decide) | skip)
    | ((with_reducible refine Ob.mk ?_); first | (with_reducible rfl) | (first | ((repeat (first | (with_reducible exact grd_p H) | replace H := grd_k H | replace H := out_step H ‹_›)); done) | rfl | ((repeat (first | exact grd_p H | (have hp := grd_p H; exact hp) | replace H := grd_k H | replace H := out_step H ‹_› | (replace H := bind_some H; obtain ⟨_, _, H⟩ := H))); done) | (repeat (first | exact grd_p H | replace H := grd_k H | replace H := out_step H ‹_›))))
    | (with_reducible exact True.intro)
    | ((conv => whnf); first
        | (with_reducible refine And.intro ?_ ?_)
        | (with_reducible exact True.intro)
        | (with_reducible refine (?_ : Ob _))
        | ((with_reducible refine CallW.mk ?_); (repeat first | replace H := grd_k H | replace H := out_step H ‹_›); replace H := bind_some H; obtain ⟨y, hy, H⟩ := H; first | ((with_reducible have hz : spec_CabinAt _ _ = some y := hy); clear hz; refine ⟨_, _, spec_CabinAt.call hy ?_, rfl, rfl, ?_⟩))
        | ((with_reducible refine fin_mk ?_); (repeat first | replace H := grd_k H | replace H := out_step H ‹_›); have H := Option.some.inj H; subst H))
    | constructor
def G44 : Env := G43.add 121 [] spec_TurnsTo.S
theorem G44_ok : EnvOk Tryz.prog G44 := G43_ok.add ent_121 fun ar h r h1 ⟨a0, a1, a2, y, hy, e1, e2, e3, e4⟩ => by
  subst e3 e4; exact (spec_TurnsTo.spec a0 a1 a2 y hy).le e1 e2
attribute [local irreducible] spec_TurnsTo

noncomputable def spec_l28One (a0 : Console) (a1 : ByteArray) (a2 : Int) : Option ((Console × ByteArray × (List Slot)) ⊕ (Console × ByteArray × (List Slot))) :=
  (cond (decide (a1 = (ByteArray.mk #[104, 97, 110, 103]))) ((spec_l28Make ((a0.1.1, a0.1.2.1, a0.1.2.2.1, a0.1.2.2.2.1, a0.1.2.2.2.2.1, ()), (a0.2.1.1, a0.2.1.2.1, a0.2.1.2.2.1, ()), ()) (3 : Int) a2).bind (Sum.elim (fun y2 => (some (Sum.inl (((y2.1.1.1, y2.2.2, y2.1.1.2.2.1, y2.1.1.2.2.2.1, y2.1.1.2.2.2.2.1, ()), (y2.1.2.1.1, y2.1.2.1.2.1, y2.1.2.1.2.2.1, ()), ()), y2.2.1, y2.2.2)))) (fun y3 => (some (Sum.inr (((y3.1.1.1, y3.1.1.2.1, y3.1.1.2.2.1, y3.1.1.2.2.2.1, y3.1.1.2.2.2.2.1, ()), (y3.1.2.1.1, y3.1.2.1.2.1, y3.1.2.1.2.2.1, ()), ()), y3.2.1, y3.2.2)))))) (cond (decide (a1 = (ByteArray.mk #[100, 111, 111, 114]))) ((spec_l28Make ((a0.1.1, a0.1.2.1, a0.1.2.2.1, a0.1.2.2.2.1, a0.1.2.2.2.2.1, ()), (a0.2.1.1, a0.2.1.2.1, a0.2.1.2.2.1, ()), ()) (7 : Int) a2).bind (Sum.elim (fun y5 => (some (Sum.inl (((y5.1.1.1, y5.2.2, y5.1.1.2.2.1, y5.1.1.2.2.2.1, y5.1.1.2.2.2.2.1, ()), (y5.1.2.1.1, y5.1.2.1.2.1, y5.1.2.1.2.2.1, ()), ()), y5.2.1, y5.2.2)))) (fun y6 => (some (Sum.inr (((y6.1.1.1, y6.1.1.2.1, y6.1.1.2.2.1, y6.1.1.2.2.2.1, y6.1.1.2.2.2.2.1, ()), (y6.1.2.1.1, y6.1.2.1.2.1, y6.1.2.1.2.2.1, ()), ()), y6.2.1, y6.2.2)))))) (cond (decide (a1 = (ByteArray.mk #[98, 111, 97, 114, 100]))) ((spec_l28Make ((a0.1.1, a0.1.2.1, a0.1.2.2.1, a0.1.2.2.2.1, a0.1.2.2.2.2.1, ()), (a0.2.1.1, a0.2.1.2.1, a0.2.1.2.2.1, ()), ()) (5 : Int) a2).bind (Sum.elim (fun y8 => (some (Sum.inl (((y8.1.1.1, y8.2.2, y8.1.1.2.2.1, y8.1.1.2.2.2.1, y8.1.1.2.2.2.2.1, ()), (y8.1.2.1.1, y8.1.2.1.2.1, y8.1.2.1.2.2.1, ()), ()), y8.2.1, y8.2.2)))) (fun y9 => (some (Sum.inr (((y9.1.1.1, y9.1.1.2.1, y9.1.1.2.2.1, y9.1.1.2.2.2.1, y9.1.1.2.2.2.2.1, ()), (y9.1.2.1.1, y9.1.2.1.2.1, y9.1.2.1.2.2.1, ()), ()), y9.2.1, y9.2.2)))))) (cond (decide (a1 = (ByteArray.mk #[108, 101, 97, 118, 101]))) ((spec_l28Make ((a0.1.1, a0.1.2.1, a0.1.2.2.1, a0.1.2.2.2.1, a0.1.2.2.2.2.1, ()), (a0.2.1.1, a0.2.1.2.1, a0.2.1.2.2.1, ()), ()) (6 : Int) a2).bind (Sum.elim (fun y11 => (some (Sum.inl (((y11.1.1.1, y11.2.2, y11.1.1.2.2.1, y11.1.1.2.2.2.1, y11.1.1.2.2.2.2.1, ()), (y11.1.2.1.1, y11.1.2.1.2.1, y11.1.2.1.2.2.1, ()), ()), y11.2.1, y11.2.2)))) (fun y12 => (some (Sum.inr (((y12.1.1.1, y12.1.1.2.1, y12.1.1.2.2.1, y12.1.1.2.2.2.1, y12.1.1.2.2.2.2.1, ()), (y12.1.2.1.1, y12.1.2.1.2.1, y12.1.2.1.2.2.1, ()), ()), y12.2.1, y12.2.2)))))) (cond (decide (a1 = (ByteArray.mk #[99, 97, 98, 105, 110]))) ((spec_CabinAt (a0.1.1, a0.1.2.1, a0.1.2.2.1, a0.1.2.2.2.1, a0.1.2.2.2.2.1, ()) a2).bind fun y13 => (cond (!y13.2) ((some (Sum.inl (((a0.1.1, a0.1.2.1, a0.1.2.2.1, a0.1.2.2.2.1, a0.1.2.2.2.2.1, ()), (a0.2.1.1, a0.2.1.2.1, a0.2.1.2.2.1, ()), ()), (ByteArray.mk #[63]), a0.1.2.1)))) ((spec_l1Num y13.1).bind fun y14 => (some (Sum.inl (((a0.1.1, a0.1.2.1, a0.1.2.2.1, a0.1.2.2.2.1, a0.1.2.2.2.2.1, ()), (a0.2.1.1, a0.2.1.2.1, a0.2.1.2.2.1, ()), ()), y14, a0.1.2.1)))))) (cond (decide (a1 = (ByteArray.mk #[117, 112]))) ((spec_TurnsTo (a0.1.1, a0.1.2.1, a0.1.2.2.1, a0.1.2.2.2.1, a0.1.2.2.2.2.1, ()) a2 true).bind fun y15 => (cond (!y15.2) ((some (Sum.inl (((a0.1.1, a0.1.2.1, a0.1.2.2.1, a0.1.2.2.2.1, a0.1.2.2.2.2.1, ()), (a0.2.1.1, a0.2.1.2.1, a0.2.1.2.2.1, ()), ()), (ByteArray.mk #[63]), a0.1.2.1)))) ((spec_l1Num y15.1).bind fun y16 => (some (Sum.inl (((a0.1.1, a0.1.2.1, a0.1.2.2.1, a0.1.2.2.2.1, a0.1.2.2.2.2.1, ()), (a0.2.1.1, a0.2.1.2.1, a0.2.1.2.2.1, ()), ()), y16, a0.1.2.1)))))) (cond (decide (a1 = (ByteArray.mk #[100, 111, 119, 110]))) ((spec_TurnsTo (a0.1.1, a0.1.2.1, a0.1.2.2.1, a0.1.2.2.2.1, a0.1.2.2.2.2.1, ()) a2 false).bind fun y17 => (cond (!y17.2) ((some (Sum.inl (((a0.1.1, a0.1.2.1, a0.1.2.2.1, a0.1.2.2.2.1, a0.1.2.2.2.2.1, ()), (a0.2.1.1, a0.2.1.2.1, a0.2.1.2.2.1, ()), ()), (ByteArray.mk #[63]), a0.1.2.1)))) ((spec_l1Num y17.1).bind fun y18 => (some (Sum.inl (((a0.1.1, a0.1.2.1, a0.1.2.2.1, a0.1.2.2.2.1, a0.1.2.2.2.2.1, ()), (a0.2.1.1, a0.2.1.2.1, a0.2.1.2.2.1, ()), ()), y18, a0.1.2.1)))))) ((some (Sum.inl (((a0.1.1, a0.1.2.1, a0.1.2.2.1, a0.1.2.2.2.1, a0.1.2.2.2.2.1, ()), (a0.2.1.1, a0.2.1.2.1, a0.2.1.2.2.1, ()), ()), (ByteArray.mk #[63]), a0.1.2.1)))))))))))
def spec_l28One.res (_ : Console) (_ : ByteArray) (_ : Int) (y : (Console × ByteArray × (List Slot)) ⊕ (Console × ByteArray × (List Slot))) : AV := match y with
  | (.inl y) => (.tup [(.agg [(.v (.int .i64 y.1.1.1)), (.own 0), (.v (.int .i64 y.1.1.2.2.1)), (.v (.int .i64 y.1.1.2.2.2.1)), (.v (.int .i64 y.1.1.2.2.2.2.1)), (.v (.string y.1.2.1.1)), (.v (.string y.1.2.1.2.1)), (.v (.int .i64 y.1.2.1.2.2.1))]), (.v (.string y.2.1))])
  | (.inr y) => (.tup [(.agg [(.v (.int .i64 y.1.1.1)), (.own 1), (.v (.int .i64 y.1.1.2.2.1)), (.v (.int .i64 y.1.1.2.2.2.1)), (.v (.int .i64 y.1.1.2.2.2.2.1)), (.v (.string y.1.2.1.1)), (.v (.string y.1.2.1.2.1)), (.v (.int .i64 y.1.2.1.2.2.1))]), (.v (.string y.2.1))])
def spec_l28One.out (_ : Console) (_ : ByteArray) (_ : Int) (y : (Console × ByteArray × (List Slot)) ⊕ (Console × ByteArray × (List Slot))) : List (Option LB) := match y with
  | (.inl y) => [some (.arr 96 ty_Slot y.2.2)]
  | (.inr y) => [some (.arr 96 ty_Slot y.2.2), some (.arr 96 ty_Slot y.1.1.2.1)]
def spec_l28One.S (ar : List AV) (h : List (Option LB)) (r : AV) (h1 : List (Option LB)) : Prop := ∃ a0 a1 a2 y, spec_l28One a0 a1 a2 = some y ∧ leL ar [(.agg [(.v (.int .i64 a0.1.1)), (.own 0), (.v (.int .i64 a0.1.2.2.1)), (.v (.int .i64 a0.1.2.2.2.1)), (.v (.int .i64 a0.1.2.2.2.2.1)), (.v (.string a0.2.1.1)), (.v (.string a0.2.1.2.1)), (.v (.int .i64 a0.2.1.2.2.1))]), (.v (.string a1)), (.v (.int .i64 a2))] ∧ leH h [some (.arr 96 ty_Slot a0.1.2.1)] ∧ r = spec_l28One.res a0 a1 a2 y ∧ h1 = spec_l28One.out a0 a1 a2 y
theorem spec_l28One.call {ar : List AV} {h : List (Option LB)} {a0 : Console} {a1 : ByteArray} {a2 : Int} {y : (Console × ByteArray × (List Slot)) ⊕ (Console × ByteArray × (List Slot))} (H : spec_l28One a0 a1 a2 = some y) (h0 : leLk ar [(.agg [(.v (.int .i64 a0.1.1)), (.own 0), (.v (.int .i64 a0.1.2.2.1)), (.v (.int .i64 a0.1.2.2.2.1)), (.v (.int .i64 a0.1.2.2.2.2.1)), (.v (.string a0.2.1.1)), (.v (.string a0.2.1.2.1)), (.v (.int .i64 a0.2.1.2.2.1))]), (.v (.string a1)), (.v (.int .i64 a2))] (leHk h [some (.arr 96 ty_Slot a0.1.2.1)])) : spec_l28One.S ar h (spec_l28One.res a0 a1 a2 y) (spec_l28One.out a0 a1 a2 y) := ⟨a0, a1, a2, y, H, (args_ok h0).1, (args_ok h0).2, rfl, rfl⟩
theorem spec_l28One.spec (a0 : Console) (a1 : ByteArray) (a2 : Int) (y : (Console × ByteArray × (List Slot)) ⊕ (Console × ByteArray × (List Slot))) (H : spec_l28One a0 a1 a2 = some y) : Spec Tryz.prog 81 [(.agg [(.v (.int .i64 a0.1.1)), (.own 0), (.v (.int .i64 a0.1.2.2.1)), (.v (.int .i64 a0.1.2.2.2.1)), (.v (.int .i64 a0.1.2.2.2.2.1)), (.v (.string a0.2.1.1)), (.v (.string a0.2.1.2.1)), (.v (.int .i64 a0.2.1.2.2.1))]), (.v (.string a1)), (.v (.int .i64 a2))] [some (.arr 96 ty_Slot a0.1.2.1)] (spec_l28One.res a0 a1 a2 y) (spec_l28One.out a0 a1 a2 y) := by
  have hlen : Nat.ble ([some (.arr 96 ty_Slot a0.1.2.1)] : List (Option LB)).length (spec_l28One.out a0 a1 a2 y).length = true := by
    rcases y with y | y <;> rfl
  refine spec_intro (G44_ok.at tok []) (ct := [(10, some [2, 3, 6, 8, 9, 10, 32]), (17, some [3, 6, 8, 9])]) Tryz.func81 rfl (by kernel_rfl) (by kernel_rfl) hlen ?_
  repeat' first
    | ((with_reducible refine eqg ?_); exact rfl)
    | ((with_reducible refine KOb.mk ?_); kernel_rfl)
    | ((with_reducible intro h); (repeat first | replace H := grd_k H | replace H := out_step H ‹_›); first | replace H := cond_t h H | replace H := cond_f h H | exact absurd h (by decide) | skip)
    | ((with_reducible refine Ob.mk ?_); first | (with_reducible rfl) | (first | ((repeat (first | (with_reducible exact grd_p H) | replace H := grd_k H | replace H := out_step H ‹_›)); done) | rfl | ((repeat (first | exact grd_p H | (have hp := grd_p H; exact hp) | replace H := grd_k H | replace H := out_step H ‹_› | (replace H := bind_some H; obtain ⟨_, _, H⟩ := H))); done) | (repeat (first | exact grd_p H | replace H := grd_k H | replace H := out_step H ‹_›))))
    | (with_reducible exact True.intro)
    | ((conv => whnf); first
        | (with_reducible refine And.intro ?_ ?_)
        | (with_reducible exact True.intro)
        | (with_reducible refine (?_ : Ob _))
        | ((with_reducible refine CallW.mk ?_); (repeat first | replace H := grd_k H | replace H := out_step H ‹_›); replace H := bind_some H; obtain ⟨y, hy, H⟩ := H; first | ((with_reducible have hz : spec_l28Make _ _ _ = some y := hy); clear hz; rcases y with y | y <;> refine ⟨_, _, spec_l28Make.call hy ?_, rfl, rfl, ?_⟩) | ((with_reducible have hz : spec_CabinAt _ _ = some y := hy); clear hz; refine ⟨_, _, spec_CabinAt.call hy ?_, rfl, rfl, ?_⟩) | ((with_reducible have hz : spec_l1Num _ = some y := hy); clear hz; refine ⟨_, _, spec_l1Num.call hy ?_, rfl, rfl, ?_⟩) | ((with_reducible have hz : spec_TurnsTo _ _ _ = some y := hy); clear hz; refine ⟨_, _, spec_TurnsTo.call hy ?_, rfl, rfl, ?_⟩))
        | ((with_reducible refine fin_mk ?_); (repeat first | replace H := grd_k H | replace H := out_step H ‹_›); have H := Option.some.inj H; subst H))
    | constructor
def G45 : Env := G44.add 81 [true] spec_l28One.S
theorem G45_ok : EnvOk Tryz.prog G45 := G44_ok.add ent_81 fun ar h r h1 ⟨a0, a1, a2, y, hy, e1, e2, e3, e4⟩ => by
  subst e3 e4; exact (spec_l28One.spec a0 a1 a2 y hy).le e1 e2
attribute [local irreducible] spec_l28One

noncomputable def spec_l28Run (a0 : Console) (a1 : ByteArray) : Option ((Console × ByteArray × (List Slot)) ⊕ (Console × ByteArray × (List Slot))) :=
  ((spec_l1Split a1 (32 : Int)).bind fun y1 => (cond (decide ((y1.length : Int) = (1 : Int))) ((spec_l28Word ((a0.1.1, a0.1.2.1, a0.1.2.2.1, a0.1.2.2.2.1, a0.1.2.2.2.2.1, ()), (a0.2.1.1, a0.2.1.2.1, a0.2.1.2.2.1, ()), ()) a1).bind (Sum.elim (fun y3 => (some (Sum.inl (((y3.1.1.1, y3.2.2, y3.1.1.2.2.1, y3.1.1.2.2.2.1, y3.1.1.2.2.2.2.1, ()), (y3.1.2.1.1, y3.1.2.1.2.1, y3.1.2.1.2.2.1, ()), ()), y3.2.1, y3.2.2)))) (fun y4 => (some (Sum.inr (((y4.1.1.1, y4.1.1.2.1, y4.1.1.2.2.1, y4.1.1.2.2.2.1, y4.1.1.2.2.2.2.1, ()), (y4.1.2.1.1, y4.1.2.1.2.1, y4.1.2.1.2.2.1, ()), ()), y4.2.1, y4.2.2)))))) (grd (0 ≤ (1 : Int) ∧ (1 : Int) < (y1.length : Int)) ((spec_ParseInt (y1.getD ((1 : Int).toNat) (ByteArray.mk #[]))).bind fun y5 => (cond (!y5.2) ((some (Sum.inl (((a0.1.1, a0.1.2.1, a0.1.2.2.1, a0.1.2.2.2.1, a0.1.2.2.2.2.1, ()), (a0.2.1.1, a0.2.1.2.1, a0.2.1.2.2.1, ()), ()), (ByteArray.mk #[63]), a0.1.2.1)))) (cond (!decide ((y1.length : Int) = (2 : Int))) ((some (Sum.inl (((a0.1.1, a0.1.2.1, a0.1.2.2.1, a0.1.2.2.2.1, a0.1.2.2.2.2.1, ()), (a0.2.1.1, a0.2.1.2.1, a0.2.1.2.2.1, ()), ()), (ByteArray.mk #[63]), a0.1.2.1)))) (grd (0 ≤ (0 : Int) ∧ (0 : Int) < (y1.length : Int)) ((spec_l28One ((a0.1.1, a0.1.2.1, a0.1.2.2.1, a0.1.2.2.2.1, a0.1.2.2.2.2.1, ()), (a0.2.1.1, a0.2.1.2.1, a0.2.1.2.2.1, ()), ()) (y1.getD ((0 : Int).toNat) (ByteArray.mk #[])) y5.1).bind (Sum.elim (fun y7 => (some (Sum.inl (((y7.1.1.1, y7.2.2, y7.1.1.2.2.1, y7.1.1.2.2.2.1, y7.1.1.2.2.2.2.1, ()), (y7.1.2.1.1, y7.1.2.1.2.1, y7.1.2.1.2.2.1, ()), ()), y7.2.1, y7.2.2)))) (fun y8 => (some (Sum.inr (((y8.1.1.1, y8.1.1.2.1, y8.1.1.2.2.1, y8.1.1.2.2.2.1, y8.1.1.2.2.2.2.1, ()), (y8.1.2.1.1, y8.1.2.1.2.1, y8.1.2.1.2.2.1, ()), ()), y8.2.1, y8.2.2)))))))))))))
def spec_l28Run.res (_ : Console) (_ : ByteArray) (y : (Console × ByteArray × (List Slot)) ⊕ (Console × ByteArray × (List Slot))) : AV := match y with
  | (.inl y) => (.tup [(.agg [(.v (.int .i64 y.1.1.1)), (.own 0), (.v (.int .i64 y.1.1.2.2.1)), (.v (.int .i64 y.1.1.2.2.2.1)), (.v (.int .i64 y.1.1.2.2.2.2.1)), (.v (.string y.1.2.1.1)), (.v (.string y.1.2.1.2.1)), (.v (.int .i64 y.1.2.1.2.2.1))]), (.v (.string y.2.1))])
  | (.inr y) => (.tup [(.agg [(.v (.int .i64 y.1.1.1)), (.own 1), (.v (.int .i64 y.1.1.2.2.1)), (.v (.int .i64 y.1.1.2.2.2.1)), (.v (.int .i64 y.1.1.2.2.2.2.1)), (.v (.string y.1.2.1.1)), (.v (.string y.1.2.1.2.1)), (.v (.int .i64 y.1.2.1.2.2.1))]), (.v (.string y.2.1))])
def spec_l28Run.out (_ : Console) (_ : ByteArray) (y : (Console × ByteArray × (List Slot)) ⊕ (Console × ByteArray × (List Slot))) : List (Option LB) := match y with
  | (.inl y) => [some (.arr 96 ty_Slot y.2.2)]
  | (.inr y) => [some (.arr 96 ty_Slot y.2.2), some (.arr 96 ty_Slot y.1.1.2.1)]
def spec_l28Run.S (ar : List AV) (h : List (Option LB)) (r : AV) (h1 : List (Option LB)) : Prop := ∃ a0 a1 y, spec_l28Run a0 a1 = some y ∧ leL ar [(.agg [(.v (.int .i64 a0.1.1)), (.own 0), (.v (.int .i64 a0.1.2.2.1)), (.v (.int .i64 a0.1.2.2.2.1)), (.v (.int .i64 a0.1.2.2.2.2.1)), (.v (.string a0.2.1.1)), (.v (.string a0.2.1.2.1)), (.v (.int .i64 a0.2.1.2.2.1))]), (.v (.string a1))] ∧ leH h [some (.arr 96 ty_Slot a0.1.2.1)] ∧ r = spec_l28Run.res a0 a1 y ∧ h1 = spec_l28Run.out a0 a1 y
theorem spec_l28Run.call {ar : List AV} {h : List (Option LB)} {a0 : Console} {a1 : ByteArray} {y : (Console × ByteArray × (List Slot)) ⊕ (Console × ByteArray × (List Slot))} (H : spec_l28Run a0 a1 = some y) (h0 : leLk ar [(.agg [(.v (.int .i64 a0.1.1)), (.own 0), (.v (.int .i64 a0.1.2.2.1)), (.v (.int .i64 a0.1.2.2.2.1)), (.v (.int .i64 a0.1.2.2.2.2.1)), (.v (.string a0.2.1.1)), (.v (.string a0.2.1.2.1)), (.v (.int .i64 a0.2.1.2.2.1))]), (.v (.string a1))] (leHk h [some (.arr 96 ty_Slot a0.1.2.1)])) : spec_l28Run.S ar h (spec_l28Run.res a0 a1 y) (spec_l28Run.out a0 a1 y) := ⟨a0, a1, y, H, (args_ok h0).1, (args_ok h0).2, rfl, rfl⟩
theorem spec_l28Run.spec (a0 : Console) (a1 : ByteArray) (y : (Console × ByteArray × (List Slot)) ⊕ (Console × ByteArray × (List Slot))) (H : spec_l28Run a0 a1 = some y) : Spec Tryz.prog 42 [(.agg [(.v (.int .i64 a0.1.1)), (.own 0), (.v (.int .i64 a0.1.2.2.1)), (.v (.int .i64 a0.1.2.2.2.1)), (.v (.int .i64 a0.1.2.2.2.2.1)), (.v (.string a0.2.1.1)), (.v (.string a0.2.1.2.1)), (.v (.int .i64 a0.2.1.2.2.1))]), (.v (.string a1))] [some (.arr 96 ty_Slot a0.1.2.1)] (spec_l28Run.res a0 a1 y) (spec_l28Run.out a0 a1 y) := by
  have hlen : Nat.ble ([some (.arr 96 ty_Slot a0.1.2.1)] : List (Option LB)).length (spec_l28Run.out a0 a1 y).length = true := by
    rcases y with y | y <;> rfl
  refine spec_intro (G45_ok.at tok []) (ct := [(4, some [2, 4, 6, 29, 30, 31]), (6, some [2, 4, 6, 7, 32])]) Tryz.func42 rfl (by kernel_rfl) (by kernel_rfl) hlen ?_
  repeat' first
    | ((with_reducible refine eqg ?_); exact rfl)
    | ((with_reducible refine KOb.mk ?_); kernel_rfl)
    | ((with_reducible intro h); (repeat first | replace H := grd_k H | replace H := out_step H ‹_›); first | replace H := cond_t h H | replace H := cond_f h H | exact absurd h (by decide) | skip)
    | ((with_reducible refine Ob.mk ?_); first | (with_reducible rfl) | (first | ((repeat (first | (with_reducible exact grd_p H) | replace H := grd_k H | replace H := out_step H ‹_›)); done) | rfl | ((repeat (first | exact grd_p H | (have hp := grd_p H; exact hp) | replace H := grd_k H | replace H := out_step H ‹_› | (replace H := bind_some H; obtain ⟨_, _, H⟩ := H))); done) | (repeat (first | exact grd_p H | replace H := grd_k H | replace H := out_step H ‹_›))))
    | (with_reducible exact True.intro)
    | ((conv => whnf); first
        | (with_reducible refine And.intro ?_ ?_)
        | (with_reducible exact True.intro)
        | (with_reducible refine (?_ : Ob _))
        | ((with_reducible refine CallW.mk ?_); (repeat first | replace H := grd_k H | replace H := out_step H ‹_›); replace H := bind_some H; obtain ⟨y, hy, H⟩ := H; first | ((with_reducible have hz : spec_l1Split _ _ = some y := hy); clear hz; refine ⟨_, _, spec_l1Split.call hy ?_, rfl, rfl, ?_⟩) | ((with_reducible have hz : spec_l28Word _ _ = some y := hy); clear hz; rcases y with y | y <;> refine ⟨_, _, spec_l28Word.call hy ?_, rfl, rfl, ?_⟩) | ((with_reducible have hz : spec_ParseInt _ = some y := hy); clear hz; refine ⟨_, _, spec_ParseInt.call hy ?_, rfl, rfl, ?_⟩) | ((with_reducible have hz : spec_l28One _ _ _ = some y := hy); clear hz; rcases y with y | y <;> refine ⟨_, _, spec_l28One.call hy ?_, rfl, rfl, ?_⟩))
        | ((with_reducible refine fin_mk ?_); (repeat first | replace H := grd_k H | replace H := out_step H ‹_›); have H := Option.some.inj H; subst H))
    | constructor
def G46 : Env := G45.add 42 [true] spec_l28Run.S
theorem G46_ok : EnvOk Tryz.prog G46 := G45_ok.add ent_42 fun ar h r h1 ⟨a0, a1, y, hy, e1, e2, e3, e4⟩ => by
  subst e3 e4; exact (spec_l28Run.spec a0 a1 y hy).le e1 e2
attribute [local irreducible] spec_l28Run

noncomputable def spec_AppendRecord (a0 : Log) (a1 : LogRecord) : Option (Log × Int) :=
  ((spec_l27Log (a0.1, a0.2.1, a0.2.2.1, ())).bind fun y1 => (cond (!y1) ((some ((a0.1, a0.2.1, a0.2.2.1, ()), (1 : Int)))) ((spec_l27Good (a1.1, a1.2.1, ())).bind fun y2 => (cond (!y2) ((some ((a0.1, a0.2.1, a0.2.2.1, ()), (1 : Int)))) (cond (decide (a0.2.2.1 = (60 : Int))) ((some ((a0.1, a0.2.1, a0.2.2.1, ()), (2 : Int)))) ((spec_l27Line a0.2.2.1 (a1.1, a1.2.1, ())).bind fun y3 => (grd (a0.2.1.size + y3.size ≤ 9223372036854775807) ((some ((a0.1, (a0.2.1 ++ y3), (w64 (a0.2.2.1 + (1 : Int))), ()), (0 : Int)))))))))))
def spec_AppendRecord.res (_ : Log) (_ : LogRecord) (y : Log × Int) : AV := (.tup [(.agg [(.v (.string y.1.1)), (.v (.string y.1.2.1)), (.v (.int .i64 y.1.2.2.1))]), (.v (.int .i64 y.2))])
def spec_AppendRecord.out (_ : Log) (_ : LogRecord) (_ : Log × Int) : List (Option LB) := []
def spec_AppendRecord.S (ar : List AV) (h : List (Option LB)) (r : AV) (h1 : List (Option LB)) : Prop := ∃ a0 a1 y, spec_AppendRecord a0 a1 = some y ∧ leL ar [(.agg [(.v (.string a0.1)), (.v (.string a0.2.1)), (.v (.int .i64 a0.2.2.1))]), (.agg [(.v (.string a1.1)), (.v (.string a1.2.1))])] ∧ leH h [] ∧ r = spec_AppendRecord.res a0 a1 y ∧ h1 = spec_AppendRecord.out a0 a1 y
theorem spec_AppendRecord.call {ar : List AV} {h : List (Option LB)} {a0 : Log} {a1 : LogRecord} {y : Log × Int} (H : spec_AppendRecord a0 a1 = some y) (h0 : leLk ar [(.agg [(.v (.string a0.1)), (.v (.string a0.2.1)), (.v (.int .i64 a0.2.2.1))]), (.agg [(.v (.string a1.1)), (.v (.string a1.2.1))])] (leHk h [])) : spec_AppendRecord.S ar h (spec_AppendRecord.res a0 a1 y) (spec_AppendRecord.out a0 a1 y) := ⟨a0, a1, y, H, (args_ok h0).1, (args_ok h0).2, rfl, rfl⟩
theorem spec_AppendRecord.spec (a0 : Log) (a1 : LogRecord) (y : Log × Int) (H : spec_AppendRecord a0 a1 = some y) : Spec Tryz.prog 43 [(.agg [(.v (.string a0.1)), (.v (.string a0.2.1)), (.v (.int .i64 a0.2.2.1))]), (.agg [(.v (.string a1.1)), (.v (.string a1.2.1))])] [] (spec_AppendRecord.res a0 a1 y) (spec_AppendRecord.out a0 a1 y) := by
  refine spec_intro (G46_ok.at tok []) (ct := [(3, some [2, 3, 4]), (7, some [2, 4])]) Tryz.func43 rfl (by kernel_rfl) (by kernel_rfl) rfl ?_
  repeat' first
    | ((with_reducible refine eqg ?_); exact rfl)
    | ((with_reducible refine KOb.mk ?_); kernel_rfl)
    | ((with_reducible intro h); (repeat first | replace H := grd_k H | replace H := out_step H ‹_›); first | replace H := cond_t h H | replace H := cond_f h H | exact absurd h (by decide) | skip)
    | ((with_reducible refine Ob.mk ?_); first | (with_reducible rfl) | (first | ((repeat (first | (with_reducible exact grd_p H) | replace H := grd_k H | replace H := out_step H ‹_›)); done) | rfl | ((repeat (first | exact grd_p H | (have hp := grd_p H; exact hp) | replace H := grd_k H | replace H := out_step H ‹_› | (replace H := bind_some H; obtain ⟨_, _, H⟩ := H))); done) | (repeat (first | exact grd_p H | replace H := grd_k H | replace H := out_step H ‹_›))))
    | (with_reducible exact True.intro)
    | ((conv => whnf); first
        | (with_reducible refine And.intro ?_ ?_)
        | (with_reducible exact True.intro)
        | (with_reducible refine (?_ : Ob _))
        | ((with_reducible refine CallW.mk ?_); (repeat first | replace H := grd_k H | replace H := out_step H ‹_›); replace H := bind_some H; obtain ⟨y, hy, H⟩ := H; first | ((with_reducible have hz : spec_l27Log _ = some y := hy); clear hz; refine ⟨_, _, spec_l27Log.call hy ?_, rfl, rfl, ?_⟩) | ((with_reducible have hz : spec_l27Good _ = some y := hy); clear hz; refine ⟨_, _, spec_l27Good.call hy ?_, rfl, rfl, ?_⟩) | ((with_reducible have hz : spec_l27Line _ _ = some y := hy); clear hz; refine ⟨_, _, spec_l27Line.call hy ?_, rfl, rfl, ?_⟩))
        | ((with_reducible refine fin_mk ?_); (repeat first | replace H := grd_k H | replace H := out_step H ‹_›); have H := Option.some.inj H; subst H))
    | constructor
def G47 : Env := G46.add 43 [] spec_AppendRecord.S
theorem G47_ok : EnvOk Tryz.prog G47 := G46_ok.add ent_43 fun ar h r h1 ⟨a0, a1, y, hy, e1, e2, e3, e4⟩ => by
  subst e3 e4; exact (spec_AppendRecord.spec a0 a1 y hy).le e1 e2
attribute [local irreducible] spec_AppendRecord

noncomputable def spec_ExecuteCommand (a0 : Console) (a1 : ByteArray) : Option (Console × ByteArray) :=
  ((spec_l28Own ((a0.1.1, a0.1.2.1, a0.1.2.2.1, a0.1.2.2.2.1, a0.1.2.2.2.2.1, ()), (a0.2.1.1, a0.2.1.2.1, a0.2.1.2.2.1, ()), ())).bind fun y1 => ((spec_l28Good ((a0.1.1, a0.1.2.1, a0.1.2.2.1, a0.1.2.2.2.1, a0.1.2.2.2.2.1, ()), (a0.2.1.1, a0.2.1.2.1, a0.2.1.2.2.1, ()), ())).bind fun y2 => (cond (!y2) ((some (((y1.1.1, y1.1.2.1, y1.1.2.2.1, y1.1.2.2.2.1, y1.1.2.2.2.2.1, ()), (y1.2.1.1, y1.2.1.2.1, y1.2.1.2.2.1, ()), ()), (ByteArray.mk #[110, 111])))) ((spec_l27Good (a1, (ByteArray.mk #[]), ())).bind fun y3 => (cond (!y3) ((some (((y1.1.1, y1.1.2.1, y1.1.2.2.1, y1.1.2.2.2.1, y1.1.2.2.2.2.1, ()), (y1.2.1.1, y1.2.1.2.1, y1.2.1.2.2.1, ()), ()), (ByteArray.mk #[98, 97, 100])))) (cond (decide (a0.2.1.2.2.1 = (60 : Int))) ((some (((y1.1.1, y1.1.2.1, y1.1.2.2.1, y1.1.2.2.2.1, y1.1.2.2.2.2.1, ()), (y1.2.1.1, y1.2.1.2.1, y1.2.1.2.2.1, ()), ()), (ByteArray.mk #[102, 117, 108, 108])))) ((spec_l28Run ((y1.1.1, y1.1.2.1, y1.1.2.2.1, y1.1.2.2.2.1, y1.1.2.2.2.2.1, ()), (y1.2.1.1, y1.2.1.2.1, y1.2.1.2.2.1, ()), ()) a1).bind (Sum.elim (fun y5 => ((spec_l28Own ((y5.1.1.1, y5.2.2, y5.1.1.2.2.1, y5.1.1.2.2.2.1, y5.1.1.2.2.2.2.1, ()), (y5.1.2.1.1, y5.1.2.1.2.1, y5.1.2.1.2.2.1, ()), ())).bind fun y6 => ((cond (decide ((200 : Int) < (y5.2.1.size : Int))) ((some ((ByteArray.mk #[108, 111, 110, 103]), y6.1.1, y6.1.2.2.1, y6.1.2.2.2.1, y6.1.2.2.2.2.1, y6.2.1.1, y6.2.1.2.1, y6.2.1.2.2.1, y6.1.2.1))) ((some (y5.2.1, y6.1.1, y6.1.2.2.1, y6.1.2.2.2.1, y6.1.2.2.2.2.1, y6.2.1.1, y6.2.1.2.1, y6.2.1.2.2.1, y6.1.2.1)))).bind fun z7 => ((spec_AppendRecord (a0.2.1.1, a0.2.1.2.1, a0.2.1.2.2.1, ()) (a1, z7.1, ())).bind fun y8 => (some (((z7.2.1, z7.2.2.2.2.2.2.2.2, z7.2.2.1, z7.2.2.2.1, z7.2.2.2.2.1, ()), (y8.1.1, y8.1.2.1, y8.1.2.2.1, ()), ()), z7.1)))))) (fun y9 => ((spec_l28Own ((y9.1.1.1, y9.1.1.2.1, y9.1.1.2.2.1, y9.1.1.2.2.2.1, y9.1.1.2.2.2.2.1, ()), (y9.1.2.1.1, y9.1.2.1.2.1, y9.1.2.1.2.2.1, ()), ())).bind fun y10 => ((cond (decide ((200 : Int) < (y9.2.1.size : Int))) ((some ((ByteArray.mk #[108, 111, 110, 103]), y10.1.1, y10.1.2.2.1, y10.1.2.2.2.1, y10.1.2.2.2.2.1, y10.2.1.1, y10.2.1.2.1, y10.2.1.2.2.1, y10.1.2.1))) ((some (y9.2.1, y10.1.1, y10.1.2.2.1, y10.1.2.2.2.1, y10.1.2.2.2.2.1, y10.2.1.1, y10.2.1.2.1, y10.2.1.2.2.1, y10.1.2.1)))).bind fun z11 => ((spec_AppendRecord (a0.2.1.1, a0.2.1.2.1, a0.2.1.2.2.1, ()) (a1, z11.1, ())).bind fun y12 => (some (((z11.2.1, z11.2.2.2.2.2.2.2.2, z11.2.2.1, z11.2.2.2.1, z11.2.2.2.2.1, ()), (y12.1.1, y12.1.2.1, y12.1.2.2.1, ()), ()), z11.1))))))))))))))
def spec_ExecuteCommand.res (_ : Console) (_ : ByteArray) (y : Console × ByteArray) : AV := (.tup [(.agg [(.v (.int .i64 y.1.1.1)), (.own 0), (.v (.int .i64 y.1.1.2.2.1)), (.v (.int .i64 y.1.1.2.2.2.1)), (.v (.int .i64 y.1.1.2.2.2.2.1)), (.v (.string y.1.2.1.1)), (.v (.string y.1.2.1.2.1)), (.v (.int .i64 y.1.2.1.2.2.1))]), (.v (.string y.2))])
def spec_ExecuteCommand.out (_ : Console) (_ : ByteArray) (y : Console × ByteArray) : List (Option LB) := [some (.arr 96 ty_Slot y.1.1.2.1)]
def spec_ExecuteCommand.S (ar : List AV) (h : List (Option LB)) (r : AV) (h1 : List (Option LB)) : Prop := ∃ a0 a1 y, spec_ExecuteCommand a0 a1 = some y ∧ leL ar [(.agg [(.v (.int .i64 a0.1.1)), (.tree ty_Slot a0.1.2.1), (.v (.int .i64 a0.1.2.2.1)), (.v (.int .i64 a0.1.2.2.2.1)), (.v (.int .i64 a0.1.2.2.2.2.1)), (.v (.string a0.2.1.1)), (.v (.string a0.2.1.2.1)), (.v (.int .i64 a0.2.1.2.2.1))]), (.v (.string a1))] ∧ leH h [] ∧ r = spec_ExecuteCommand.res a0 a1 y ∧ h1 = spec_ExecuteCommand.out a0 a1 y
theorem spec_ExecuteCommand.call {ar : List AV} {h : List (Option LB)} {a0 : Console} {a1 : ByteArray} {y : Console × ByteArray} (H : spec_ExecuteCommand a0 a1 = some y) (h0 : leLk ar [(.agg [(.v (.int .i64 a0.1.1)), (.tree ty_Slot a0.1.2.1), (.v (.int .i64 a0.1.2.2.1)), (.v (.int .i64 a0.1.2.2.2.1)), (.v (.int .i64 a0.1.2.2.2.2.1)), (.v (.string a0.2.1.1)), (.v (.string a0.2.1.2.1)), (.v (.int .i64 a0.2.1.2.2.1))]), (.v (.string a1))] (leHk h [])) : spec_ExecuteCommand.S ar h (spec_ExecuteCommand.res a0 a1 y) (spec_ExecuteCommand.out a0 a1 y) := ⟨a0, a1, y, H, (args_ok h0).1, (args_ok h0).2, rfl, rfl⟩
theorem spec_ExecuteCommand.spec (a0 : Console) (a1 : ByteArray) (y : Console × ByteArray) (H : spec_ExecuteCommand a0 a1 = some y) : Spec Tryz.prog 13 [(.agg [(.v (.int .i64 a0.1.1)), (.tree ty_Slot a0.1.2.1), (.v (.int .i64 a0.1.2.2.1)), (.v (.int .i64 a0.1.2.2.2.1)), (.v (.int .i64 a0.1.2.2.2.2.1)), (.v (.string a0.2.1.1)), (.v (.string a0.2.1.2.1)), (.v (.int .i64 a0.2.1.2.2.1))]), (.v (.string a1))] [] (spec_ExecuteCommand.res a0 a1 y) (spec_ExecuteCommand.out a0 a1 y) := by
  refine spec_intro (G47_ok.at tok []) (ct := [(12, none), (5, some [1, 2, 4, 6, 16]), (9, some [1, 2, 4, 6, 7, 8])]) Tryz.func13 rfl (by kernel_rfl) (by kernel_rfl) rfl ?_
  repeat' first
    | ((with_reducible refine eqg ?_); exact rfl)
    | ((with_reducible refine KOb.mk ?_); kernel_rfl)
    | ((with_reducible intro h); (repeat first | replace H := grd_k H | replace H := out_step H ‹_›); first | replace H := cond_t h H | replace H := cond_f h H | exact absurd h (by decide) | skip)
    | ((with_reducible refine Ob.mk ?_); first | (with_reducible rfl) | (first | ((repeat (first | (with_reducible exact grd_p H) | replace H := grd_k H | replace H := out_step H ‹_›)); done) | rfl | ((repeat (first | exact grd_p H | (have hp := grd_p H; exact hp) | replace H := grd_k H | replace H := out_step H ‹_› | (replace H := bind_some H; obtain ⟨_, _, H⟩ := H))); done) | (repeat (first | exact grd_p H | replace H := grd_k H | replace H := out_step H ‹_›))))
    | (with_reducible exact True.intro)
    | ((conv => whnf); first
        | (with_reducible refine And.intro ?_ ?_)
        | (with_reducible exact True.intro)
        | (with_reducible refine (?_ : Ob _))
        | ((with_reducible refine CallW.mk ?_); (repeat first | replace H := grd_k H | replace H := out_step H ‹_›); replace H := bind_some H; obtain ⟨y, hy, H⟩ := H; first | ((with_reducible have hz : spec_l28Own _ = some y := hy); clear hz; refine ⟨_, _, spec_l28Own.call hy ?_, rfl, rfl, ?_⟩) | ((with_reducible have hz : spec_l28Good _ = some y := hy); clear hz; refine ⟨_, _, spec_l28Good.call hy ?_, rfl, rfl, ?_⟩) | ((with_reducible have hz : spec_l27Good _ = some y := hy); clear hz; refine ⟨_, _, spec_l27Good.call hy ?_, rfl, rfl, ?_⟩) | ((with_reducible have hz : spec_l28Run _ _ = some y := hy); clear hz; rcases y with y | y <;> refine ⟨_, _, spec_l28Run.call hy ?_, rfl, rfl, ?_⟩) | ((with_reducible have hz : spec_AppendRecord _ _ = some y := hy); clear hz; refine ⟨_, _, spec_AppendRecord.call hy ?_, rfl, rfl, ?_⟩))
        | ((with_reducible refine cutAt (id := 12) ?_); (repeat first | replace H := grd_k H | replace H := out_step H ‹_›); first | (replace H := bind_some H; obtain ⟨z, hz, H⟩ := H; refine CutC.mk (id := 12) ⟨sl [(1, (.v (.string a1))), (2, (.loc 0 0 0)), (4, (.loc 1 0 0)), (6, (.loc 2 0 0)), (8, (.v (.string z.1)))], [some (.box 40 [(.v (.int .i64 a0.1.1)), (.tree ty_Slot a0.1.2.1), (.v (.int .i64 a0.1.2.2.1)), (.v (.int .i64 a0.1.2.2.2.1)), (.v (.int .i64 a0.1.2.2.2.2.1)), (.v (.string a0.2.1.1)), (.v (.string a0.2.1.2.1)), (.v (.int .i64 a0.2.1.2.2.1))]), some (.box 40 [(.v (.int .i64 (0 : Int))), (.v (.slice none 0 0)), (.v (.int .i64 (0 : Int))), (.v (.int .i64 (0 : Int))), (.v (.int .i64 (0 : Int))), (.v (.string (ByteArray.mk #[]))), (.v (.string (ByteArray.mk #[]))), (.v (.int .i64 (0 : Int)))]), some (.box 40 [(.v (.int .i64 z.2.1)), (.own 3), (.v (.int .i64 z.2.2.1)), (.v (.int .i64 z.2.2.2.1)), (.v (.int .i64 z.2.2.2.2.1)), (.v (.string z.2.2.2.2.2.1)), (.v (.string z.2.2.2.2.2.2.1)), (.v (.int .i64 z.2.2.2.2.2.2.2.1))]), some (.arr 96 ty_Slot z.2.2.2.2.2.2.2.2)]⟩ ?_ ?_; (replace H := hz)))
        | ((repeat first | replace H := grd_k H | replace H := out_step H ‹_›); have H := Option.some.inj H; subst H; with_reducible refine sub_auto ?_)
        | ((with_reducible refine fin_mk ?_); (repeat first | replace H := grd_k H | replace H := out_step H ‹_›); have H := Option.some.inj H; subst H))
    | constructor
def G48 : Env := G47.add 13 [] spec_ExecuteCommand.S
theorem G48_ok : EnvOk Tryz.prog G48 := G47_ok.add ent_13 fun ar h r h1 ⟨a0, a1, y, hy, e1, e2, e3, e4⟩ => by
  subst e3 e4; exact (spec_ExecuteCommand.spec a0 a1 y hy).le e1 e2
attribute [local irreducible] spec_ExecuteCommand

end Go.Proofs.YtaobinhdnklojaaGreatDoor
namespace Go.Proofs.YtaobinhdnklojaaGreatDoor
open Go.RowKit
set_option maxHeartbeats 100000000
set_option maxRecDepth 100000
attribute [local irreducible] Ob loopwp Sub Spec Fin Again CallW CutC KOb iter

attribute [local irreducible] spec_l1Num_f

noncomputable def slices_Clone___impl_Slot_impl_Slot_ (a0 : (List Slot)) : Option ((List Slot) × (List Slot)) :=
  (grd (([] : List Slot).length + a0.length ≤ 140737488355328 / 24 ∧ ([] : List Slot).length + a0.length ≤ 140737488355328) ((some ((([] : List Slot) ++ a0), a0))))
def slices_Clone___impl_Slot_impl_Slot_.res (_ : (List Slot)) (_ : (List Slot) × (List Slot)) : AV := (.own 1)
def slices_Clone___impl_Slot_impl_Slot_.out (_ : (List Slot)) (y : (List Slot) × (List Slot)) : List (Option LB) := [some (.arr 96 ty_Slot y.2), some (.arr 96 ty_Slot y.1)]
def slices_Clone___impl_Slot_impl_Slot_.S (ar : List AV) (h : List (Option LB)) (r : AV) (h1 : List (Option LB)) : Prop := ∃ a0 y, slices_Clone___impl_Slot_impl_Slot_ a0 = some y ∧ leL ar [(.own 0)] ∧ leH h [some (.arr 96 ty_Slot a0)] ∧ r = slices_Clone___impl_Slot_impl_Slot_.res a0 y ∧ h1 = slices_Clone___impl_Slot_impl_Slot_.out a0 y
theorem slices_Clone___impl_Slot_impl_Slot_.call {ar : List AV} {h : List (Option LB)} {a0 : (List Slot)} {y : (List Slot) × (List Slot)} (H : slices_Clone___impl_Slot_impl_Slot_ a0 = some y) (h0 : leLk ar [(.own 0)] (leHk h [some (.arr 96 ty_Slot a0)])) : slices_Clone___impl_Slot_impl_Slot_.S ar h (slices_Clone___impl_Slot_impl_Slot_.res a0 y) (slices_Clone___impl_Slot_impl_Slot_.out a0 y) := ⟨a0, y, H, (args_ok h0).1, (args_ok h0).2, rfl, rfl⟩
theorem slices_Clone___impl_Slot_impl_Slot_.spec (a0 : (List Slot)) (y : (List Slot) × (List Slot)) (H : slices_Clone___impl_Slot_impl_Slot_ a0 = some y) : Spec Tryz.prog 84 [(.own 0)] [some (.arr 96 ty_Slot a0)] (slices_Clone___impl_Slot_impl_Slot_.res a0 y) (slices_Clone___impl_Slot_impl_Slot_.out a0 y) := by
  refine spec_intro (G48_ok.at tok []) (ct := []) Tryz.func84 rfl (by kernel_rfl) (by kernel_rfl) rfl ?_
  repeat' first
    | ((with_reducible refine eqg ?_); exact rfl)
    | ((with_reducible refine KOb.mk ?_); kernel_rfl)
    | ((with_reducible intro h); (repeat first | replace H := grd_k H | replace H := out_step H ‹_›); first | replace H := cond_t h H | replace H := cond_f h H | exact absurd h (by decide) | skip)
    | ((with_reducible refine Ob.mk ?_); first | (with_reducible rfl) | (first | ((repeat (first | (with_reducible exact grd_p H) | replace H := grd_k H | replace H := out_step H ‹_›)); done) | rfl | ((repeat (first | exact grd_p H | (have hp := grd_p H; exact hp) | replace H := grd_k H | replace H := out_step H ‹_› | (replace H := bind_some H; obtain ⟨_, _, H⟩ := H))); done) | (repeat (first | exact grd_p H | replace H := grd_k H | replace H := out_step H ‹_›))))
    | (with_reducible exact True.intro)
    | ((conv => whnf); first
        | (with_reducible refine And.intro ?_ ?_)
        | (with_reducible exact True.intro)
        | (with_reducible refine (?_ : Ob _))
        | ((with_reducible refine fin_mk ?_); (repeat first | replace H := grd_k H | replace H := out_step H ‹_›); have H := Option.some.inj H; subst H))
    | constructor
  all_goals exact viewz _ _
def G49 : Env := G48.add 84 [true] slices_Clone___impl_Slot_impl_Slot_.S
theorem G49_ok : EnvOk Tryz.prog G49 := G48_ok.add ent_84 fun ar h r h1 ⟨a0, y, hy, e1, e2, e3, e4⟩ => by
  subst e3 e4; exact (slices_Clone___impl_Slot_impl_Slot_.spec a0 y hy).le e1 e2
attribute [local irreducible] slices_Clone___impl_Slot_impl_Slot_

noncomputable def impl_copyRopeway (a0 : Ropeway) : Option (Ropeway × (List Slot)) :=
  ((slices_Clone___impl_Slot_impl_Slot_ a0.2.1).bind fun y1 => (some ((a0.1, y1.1, a0.2.2.1, a0.2.2.2.1, a0.2.2.2.2.1, ()), y1.2)))
def impl_copyRopeway.res (_ : Ropeway) (y : Ropeway × (List Slot)) : AV := (.agg [(.v (.int .i64 y.1.1)), (.own 1), (.v (.int .i64 y.1.2.2.1)), (.v (.int .i64 y.1.2.2.2.1)), (.v (.int .i64 y.1.2.2.2.2.1))])
def impl_copyRopeway.out (_ : Ropeway) (y : Ropeway × (List Slot)) : List (Option LB) := [some (.arr 96 ty_Slot y.2), some (.arr 96 ty_Slot y.1.2.1)]
def impl_copyRopeway.S (ar : List AV) (h : List (Option LB)) (r : AV) (h1 : List (Option LB)) : Prop := ∃ a0 y, impl_copyRopeway a0 = some y ∧ leL ar [(.agg [(.v (.int .i64 a0.1)), (.own 0), (.v (.int .i64 a0.2.2.1)), (.v (.int .i64 a0.2.2.2.1)), (.v (.int .i64 a0.2.2.2.2.1))])] ∧ leH h [some (.arr 96 ty_Slot a0.2.1)] ∧ r = impl_copyRopeway.res a0 y ∧ h1 = impl_copyRopeway.out a0 y
theorem impl_copyRopeway.call {ar : List AV} {h : List (Option LB)} {a0 : Ropeway} {y : Ropeway × (List Slot)} (H : impl_copyRopeway a0 = some y) (h0 : leLk ar [(.agg [(.v (.int .i64 a0.1)), (.own 0), (.v (.int .i64 a0.2.2.1)), (.v (.int .i64 a0.2.2.2.1)), (.v (.int .i64 a0.2.2.2.2.1))])] (leHk h [some (.arr 96 ty_Slot a0.2.1)])) : impl_copyRopeway.S ar h (impl_copyRopeway.res a0 y) (impl_copyRopeway.out a0 y) := ⟨a0, y, H, (args_ok h0).1, (args_ok h0).2, rfl, rfl⟩
theorem impl_copyRopeway.spec (a0 : Ropeway) (y : Ropeway × (List Slot)) (H : impl_copyRopeway a0 = some y) : Spec Tryz.prog 45 [(.agg [(.v (.int .i64 a0.1)), (.own 0), (.v (.int .i64 a0.2.2.1)), (.v (.int .i64 a0.2.2.2.1)), (.v (.int .i64 a0.2.2.2.2.1))])] [some (.arr 96 ty_Slot a0.2.1)] (impl_copyRopeway.res a0 y) (impl_copyRopeway.out a0 y) := by
  refine spec_intro (G49_ok.at tok []) (ct := []) Tryz.func45 rfl (by kernel_rfl) (by kernel_rfl) rfl ?_
  repeat' first
    | ((with_reducible refine eqg ?_); exact rfl)
    | ((with_reducible refine KOb.mk ?_); kernel_rfl)
    | ((with_reducible intro h); (repeat first | replace H := grd_k H | replace H := out_step H ‹_›); first | replace H := cond_t h H | replace H := cond_f h H | exact absurd h (by decide) | skip)
    | ((with_reducible refine Ob.mk ?_); first | (with_reducible rfl) | (first | ((repeat (first | (with_reducible exact grd_p H) | replace H := grd_k H | replace H := out_step H ‹_›)); done) | rfl | ((repeat (first | exact grd_p H | (have hp := grd_p H; exact hp) | replace H := grd_k H | replace H := out_step H ‹_› | (replace H := bind_some H; obtain ⟨_, _, H⟩ := H))); done) | (repeat (first | exact grd_p H | replace H := grd_k H | replace H := out_step H ‹_›))))
    | (with_reducible exact True.intro)
    | ((conv => whnf); first
        | (with_reducible refine And.intro ?_ ?_)
        | (with_reducible exact True.intro)
        | (with_reducible refine (?_ : Ob _))
        | ((with_reducible refine CallW.mk ?_); (repeat first | replace H := grd_k H | replace H := out_step H ‹_›); replace H := bind_some H; obtain ⟨y, hy, H⟩ := H; first | ((with_reducible have hz : slices_Clone___impl_Slot_impl_Slot_ _ = some y := hy); clear hz; refine ⟨_, _, slices_Clone___impl_Slot_impl_Slot_.call hy ?_, rfl, rfl, ?_⟩))
        | ((with_reducible refine fin_mk ?_); (repeat first | replace H := grd_k H | replace H := out_step H ‹_›); have H := Option.some.inj H; subst H))
    | constructor
def G50 : Env := G49.add 45 [true] impl_copyRopeway.S
theorem G50_ok : EnvOk Tryz.prog G50 := G49_ok.add ent_45 fun ar h r h1 ⟨a0, y, hy, e1, e2, e3, e4⟩ => by
  subst e3 e4; exact (impl_copyRopeway.spec a0 y hy).le e1 e2
attribute [local irreducible] impl_copyRopeway

noncomputable def impl_within (a0 : Int) (a1 : Int) (a2 : Int) : Option (Bool) :=
  (cond (decide (a1 ≤ a0)) ((some (decide (a0 ≤ a2)))) ((some false)))
def impl_within.res (_ : Int) (_ : Int) (_ : Int) (y : Bool) : AV := (.bl y)
def impl_within.out (_ : Int) (_ : Int) (_ : Int) (_ : Bool) : List (Option LB) := []
def impl_within.S (ar : List AV) (h : List (Option LB)) (r : AV) (h1 : List (Option LB)) : Prop := ∃ a0 a1 a2 y, impl_within a0 a1 a2 = some y ∧ leL ar [(.v (.int .i64 a0)), (.v (.int .i64 a1)), (.v (.int .i64 a2))] ∧ leH h [] ∧ r = impl_within.res a0 a1 a2 y ∧ h1 = impl_within.out a0 a1 a2 y
theorem impl_within.call {ar : List AV} {h : List (Option LB)} {a0 : Int} {a1 : Int} {a2 : Int} {y : Bool} (H : impl_within a0 a1 a2 = some y) (h0 : leLk ar [(.v (.int .i64 a0)), (.v (.int .i64 a1)), (.v (.int .i64 a2))] (leHk h [])) : impl_within.S ar h (impl_within.res a0 a1 a2 y) (impl_within.out a0 a1 a2 y) := ⟨a0, a1, a2, y, H, (args_ok h0).1, (args_ok h0).2, rfl, rfl⟩
theorem impl_within.spec (a0 : Int) (a1 : Int) (a2 : Int) (y : Bool) (H : impl_within a0 a1 a2 = some y) : Spec Tryz.prog 70 [(.v (.int .i64 a0)), (.v (.int .i64 a1)), (.v (.int .i64 a2))] [] (impl_within.res a0 a1 a2 y) (impl_within.out a0 a1 a2 y) := by
  refine spec_intro (G50_ok.at tok []) (ct := []) Tryz.func70 rfl (by kernel_rfl) (by kernel_rfl) rfl ?_
  repeat' first
    | ((with_reducible refine eqg ?_); exact rfl)
    | ((with_reducible refine KOb.mk ?_); kernel_rfl)
    | ((with_reducible intro h); (repeat first | replace H := grd_k H | replace H := out_step H ‹_›); first | replace H := cond_t h H | replace H := cond_f h H | exact absurd h (by decide) | skip)
    | ((with_reducible refine Ob.mk ?_); first | (with_reducible rfl) | (first | ((repeat (first | (with_reducible exact grd_p H) | replace H := grd_k H | replace H := out_step H ‹_›)); done) | rfl | ((repeat (first | exact grd_p H | (have hp := grd_p H; exact hp) | replace H := grd_k H | replace H := out_step H ‹_› | (replace H := bind_some H; obtain ⟨_, _, H⟩ := H))); done) | (repeat (first | exact grd_p H | replace H := grd_k H | replace H := out_step H ‹_›))))
    | (with_reducible exact True.intro)
    | ((conv => whnf); first
        | (with_reducible refine And.intro ?_ ?_)
        | (with_reducible exact True.intro)
        | (with_reducible refine (?_ : Ob _))
        | ((with_reducible refine fin_mk ?_); (repeat first | replace H := grd_k H | replace H := out_step H ‹_›); have H := Option.some.inj H; subst H))
    | constructor
def G51 : Env := G50.add 70 [] impl_within.S
theorem G51_ok : EnvOk Tryz.prog G51 := G50_ok.add ent_70 fun ar h r h1 ⟨a0, a1, a2, y, hy, e1, e2, e3, e4⟩ => by
  subst e3 e4; exact (impl_within.spec a0 a1 a2 y hy).le e1 e2
attribute [local irreducible] impl_within

noncomputable def impl_Ropeway_isStation (a0 : Ropeway) (a1 : Int) : Option (Bool) :=
  (cond (decide (a1 = (0 : Int))) ((some true)) (grd ((2 : Int) ≠ 0) ((some (decide (a1 = (w64 (Int.tdiv (a0.2.1.length : Int) (2 : Int)))))))))
def impl_Ropeway_isStation.res (_ : Ropeway) (_ : Int) (y : Bool) : AV := (.bl y)
def impl_Ropeway_isStation.out (_ : Ropeway) (_ : Int) (_ : Bool) : List (Option LB) := []
def impl_Ropeway_isStation.S (ar : List AV) (h : List (Option LB)) (r : AV) (h1 : List (Option LB)) : Prop := ∃ a0 a1 y, impl_Ropeway_isStation a0 a1 = some y ∧ leL ar [(.agg [(.v (.int .i64 a0.1)), (.tree ty_Slot a0.2.1), (.v (.int .i64 a0.2.2.1)), (.v (.int .i64 a0.2.2.2.1)), (.v (.int .i64 a0.2.2.2.2.1))]), (.v (.int .i64 a1))] ∧ leH h [] ∧ r = impl_Ropeway_isStation.res a0 a1 y ∧ h1 = impl_Ropeway_isStation.out a0 a1 y
theorem impl_Ropeway_isStation.call {ar : List AV} {h : List (Option LB)} {a0 : Ropeway} {a1 : Int} {y : Bool} (H : impl_Ropeway_isStation a0 a1 = some y) (h0 : leLk ar [(.agg [(.v (.int .i64 a0.1)), (.tree ty_Slot a0.2.1), (.v (.int .i64 a0.2.2.1)), (.v (.int .i64 a0.2.2.2.1)), (.v (.int .i64 a0.2.2.2.2.1))]), (.v (.int .i64 a1))] (leHk h [])) : impl_Ropeway_isStation.S ar h (impl_Ropeway_isStation.res a0 a1 y) (impl_Ropeway_isStation.out a0 a1 y) := ⟨a0, a1, y, H, (args_ok h0).1, (args_ok h0).2, rfl, rfl⟩
theorem impl_Ropeway_isStation.spec (a0 : Ropeway) (a1 : Int) (y : Bool) (H : impl_Ropeway_isStation a0 a1 = some y) : Spec Tryz.prog 124 [(.agg [(.v (.int .i64 a0.1)), (.tree ty_Slot a0.2.1), (.v (.int .i64 a0.2.2.1)), (.v (.int .i64 a0.2.2.2.1)), (.v (.int .i64 a0.2.2.2.2.1))]), (.v (.int .i64 a1))] [] (impl_Ropeway_isStation.res a0 a1 y) (impl_Ropeway_isStation.out a0 a1 y) := by
  refine spec_intro (G51_ok.at tok []) (ct := []) Tryz.func124 rfl (by kernel_rfl) (by kernel_rfl) rfl ?_
  repeat' first
    | ((with_reducible refine eqg ?_); exact rfl)
    | ((with_reducible refine KOb.mk ?_); kernel_rfl)
    | ((with_reducible intro h); (repeat first | replace H := grd_k H | replace H := out_step H ‹_›); first | replace H := cond_t h H | replace H := cond_f h H | exact absurd h (by decide) | skip)
    | ((with_reducible refine Ob.mk ?_); first | (with_reducible rfl) | (first | ((repeat (first | (with_reducible exact grd_p H) | replace H := grd_k H | replace H := out_step H ‹_›)); done) | rfl | ((repeat (first | exact grd_p H | (have hp := grd_p H; exact hp) | replace H := grd_k H | replace H := out_step H ‹_› | (replace H := bind_some H; obtain ⟨_, _, H⟩ := H))); done) | (repeat (first | exact grd_p H | replace H := grd_k H | replace H := out_step H ‹_›))))
    | (with_reducible exact True.intro)
    | ((conv => whnf); first
        | (with_reducible refine And.intro ?_ ?_)
        | (with_reducible exact True.intro)
        | (with_reducible refine (?_ : Ob _))
        | ((with_reducible refine fin_mk ?_); (repeat first | replace H := grd_k H | replace H := out_step H ‹_›); have H := Option.some.inj H; subst H))
    | constructor
def G52 : Env := G51.add 124 [] impl_Ropeway_isStation.S
theorem G52_ok : EnvOk Tryz.prog G52 := G51_ok.add ent_124 fun ar h r h1 ⟨a0, a1, y, hy, e1, e2, e3, e4⟩ => by
  subst e3 e4; exact (impl_Ropeway_isStation.spec a0 a1 y hy).le e1 e2
attribute [local irreducible] impl_Ropeway_isStation

noncomputable def impl_IsRopeway_1_i1 (a0 : Slot) (a100 : Int) (_ : Bool) (_ : Int) : Option (Bool) :=
  (some (decide (a0.1 = a100)))
def impl_IsRopeway_1_i1.res (_ : Slot) (_ : Int) (_ : Bool) (_ : Int) (y : Bool) : AV := (.bl y)
def impl_IsRopeway_1_i1.out (_ : Slot) (_ : Int) (_ : Bool) (_ : Int) (_ : Bool) : List (Option LB) := []
def impl_IsRopeway_1_i1.S (ar : List AV) (h : List (Option LB)) (r : AV) (h1 : List (Option LB)) : Prop := ∃ a0 a100 a101 a102 y, impl_IsRopeway_1_i1 a0 a100 a101 a102 = some y ∧ leL ar [(.agg [(.v (.int .i64 a0.1)), (.bl a0.2.1), (.v (.int .i64 a0.2.2.1))]), (.bptr [(.v (.int .i64 a100)), (.bl a101), (.v (.int .i64 a102))] 0)] ∧ leH h [] ∧ r = impl_IsRopeway_1_i1.res a0 a100 a101 a102 y ∧ h1 = impl_IsRopeway_1_i1.out a0 a100 a101 a102 y
theorem impl_IsRopeway_1_i1.call {ar : List AV} {h : List (Option LB)} {a0 : Slot} {a100 : Int} {a101 : Bool} {a102 : Int} {y : Bool} (H : impl_IsRopeway_1_i1 a0 a100 a101 a102 = some y) (h0 : leLk ar [(.agg [(.v (.int .i64 a0.1)), (.bl a0.2.1), (.v (.int .i64 a0.2.2.1))]), (.bptr [(.v (.int .i64 a100)), (.bl a101), (.v (.int .i64 a102))] 0)] (leHk h [])) : impl_IsRopeway_1_i1.S ar h (impl_IsRopeway_1_i1.res a0 a100 a101 a102 y) (impl_IsRopeway_1_i1.out a0 a100 a101 a102 y) := ⟨a0, a100, a101, a102, y, H, (args_ok h0).1, (args_ok h0).2, rfl, rfl⟩
theorem impl_IsRopeway_1_i1.spec (a0 : Slot) (a100 : Int) (a101 : Bool) (a102 : Int) (y : Bool) (H : impl_IsRopeway_1_i1 a0 a100 a101 a102 = some y) : Spec Tryz.prog 126 [(.agg [(.v (.int .i64 a0.1)), (.bl a0.2.1), (.v (.int .i64 a0.2.2.1))]), (.bptr [(.v (.int .i64 a100)), (.bl a101), (.v (.int .i64 a102))] 0)] [] (impl_IsRopeway_1_i1.res a0 a100 a101 a102 y) (impl_IsRopeway_1_i1.out a0 a100 a101 a102 y) := by
  refine spec_intro (G52_ok.at tok []) (ct := []) Tryz.func126 rfl (by kernel_rfl) (by kernel_rfl) rfl ?_
  repeat' first
    | ((with_reducible refine eqg ?_); exact rfl)
    | ((with_reducible refine KOb.mk ?_); kernel_rfl)
    | ((with_reducible intro h); (repeat first | replace H := grd_k H | replace H := out_step H ‹_›); first | replace H := cond_t h H | replace H := cond_f h H | exact absurd h (by decide) | skip)
    | ((with_reducible refine Ob.mk ?_); first | (with_reducible rfl) | (first | ((repeat (first | (with_reducible exact grd_p H) | replace H := grd_k H | replace H := out_step H ‹_›)); done) | rfl | ((repeat (first | exact grd_p H | (have hp := grd_p H; exact hp) | replace H := grd_k H | replace H := out_step H ‹_› | (replace H := bind_some H; obtain ⟨_, _, H⟩ := H))); done) | (repeat (first | exact grd_p H | replace H := grd_k H | replace H := out_step H ‹_›))))
    | (with_reducible exact True.intro)
    | ((conv => whnf); first
        | (with_reducible refine And.intro ?_ ?_)
        | (with_reducible exact True.intro)
        | (with_reducible refine (?_ : Ob _))
        | ((with_reducible refine fin_mk ?_); (repeat first | replace H := grd_k H | replace H := out_step H ‹_›); have H := Option.some.inj H; subst H))
    | constructor
def G53 : Env := G52.add 126 [] impl_IsRopeway_1_i1.S
theorem G53_ok : EnvOk Tryz.prog G53 := G52_ok.add ent_126 fun ar h r h1 ⟨a0, a100, a101, a102, y, hy, e1, e2, e3, e4⟩ => by
  subst e3 e4; exact (impl_IsRopeway_1_i1.spec a0 a100 a101 a102 y hy).le e1 e2
attribute [local irreducible] impl_IsRopeway_1_i1

noncomputable def slices_IndexFunc___impl_Slot_impl_Slot__i1_loop1 (a0 : (List Slot)) (a100 : Int) (a101 : Bool) (a102 : Int) (v4 : Int) : Option (Lp (Int) ((Int) ⊕ (Unit))) :=
  (cond (decide (v4 < (a0.length : Int))) (grd (0 ≤ v4 ∧ v4 < (a0.length : Int)) ((impl_IsRopeway_1_i1 ((a0.getD v4.toNat d_Slot).1, (a0.getD v4.toNat d_Slot).2.1, (a0.getD v4.toNat d_Slot).2.2.1, ()) a100 a101 a102).bind fun y5 => (cond y5 ((some (.out (Sum.inl v4)))) (some (.go (w64 (v4 + (1 : Int)))))))) ((some (.out (Sum.inr ())))))
noncomputable def slices_IndexFunc___impl_Slot_impl_Slot__i1 (a0 : (List Slot)) (a100 : Int) (a101 : Bool) (a102 : Int) : Option (Int) :=
  ((iter (fun s => slices_IndexFunc___impl_Slot_impl_Slot__i1_loop1 a0 a100 a101 a102 s) (0 : Int)).bind (Sum.elim (fun r7 => (some r7)) (fun _ => (some ((-1) : Int)))))
def slices_IndexFunc___impl_Slot_impl_Slot__i1.res (_ : (List Slot)) (_ : Int) (_ : Bool) (_ : Int) (y : Int) : AV := (.v (.int .i64 y))
def slices_IndexFunc___impl_Slot_impl_Slot__i1.out (_ : (List Slot)) (_ : Int) (_ : Bool) (_ : Int) (_ : Int) : List (Option LB) := []
def slices_IndexFunc___impl_Slot_impl_Slot__i1.S (ar : List AV) (h : List (Option LB)) (r : AV) (h1 : List (Option LB)) : Prop := ∃ a0 a100 a101 a102 y, slices_IndexFunc___impl_Slot_impl_Slot__i1 a0 a100 a101 a102 = some y ∧ leL ar [(.tree ty_Slot a0), (.fn 126 [(.bptr [(.v (.int .i64 a100)), (.bl a101), (.v (.int .i64 a102))] 0)])] ∧ leH h [] ∧ r = slices_IndexFunc___impl_Slot_impl_Slot__i1.res a0 a100 a101 a102 y ∧ h1 = slices_IndexFunc___impl_Slot_impl_Slot__i1.out a0 a100 a101 a102 y
theorem slices_IndexFunc___impl_Slot_impl_Slot__i1.call {ar : List AV} {h : List (Option LB)} {a0 : (List Slot)} {a100 : Int} {a101 : Bool} {a102 : Int} {y : Int} (H : slices_IndexFunc___impl_Slot_impl_Slot__i1 a0 a100 a101 a102 = some y) (h0 : leLk ar [(.tree ty_Slot a0), (.fn 126 [(.bptr [(.v (.int .i64 a100)), (.bl a101), (.v (.int .i64 a102))] 0)])] (leHk h [])) : slices_IndexFunc___impl_Slot_impl_Slot__i1.S ar h (slices_IndexFunc___impl_Slot_impl_Slot__i1.res a0 a100 a101 a102 y) (slices_IndexFunc___impl_Slot_impl_Slot__i1.out a0 a100 a101 a102 y) := ⟨a0, a100, a101, a102, y, H, (args_ok h0).1, (args_ok h0).2, rfl, rfl⟩
theorem slices_IndexFunc___impl_Slot_impl_Slot__i1.spec (a0 : (List Slot)) (a100 : Int) (a101 : Bool) (a102 : Int) (y : Int) (H : slices_IndexFunc___impl_Slot_impl_Slot__i1 a0 a100 a101 a102 = some y) : Spec Tryz.prog 156 [(.tree ty_Slot a0), (.fn 126 [(.bptr [(.v (.int .i64 a100)), (.bl a101), (.v (.int .i64 a102))] 0)])] [] (slices_IndexFunc___impl_Slot_impl_Slot__i1.res a0 a100 a101 a102 y) (slices_IndexFunc___impl_Slot_impl_Slot__i1.out a0 a100 a101 a102 y) := by
  refine spec_intro (G53_ok.at tok []) (ct := []) Tryz.func156 rfl (by kernel_rfl) (by kernel_rfl) rfl ?_
  repeat' first
    | ((with_reducible refine eqg ?_); exact rfl)
    | ((with_reducible refine KOb.mk ?_); kernel_rfl)
    | ((with_reducible intro h); (repeat first | replace H := grd_k H | replace H := out_step H ‹_›); first | replace H := cond_t h H | replace H := cond_f h H | exact absurd h (by decide) | skip)
    | ((with_reducible refine Ob.mk ?_); first | (with_reducible rfl) | (first | ((repeat (first | (with_reducible exact grd_p H) | replace H := grd_k H | replace H := out_step H ‹_›)); done) | rfl | ((repeat (first | exact grd_p H | (have hp := grd_p H; exact hp) | replace H := grd_k H | replace H := out_step H ‹_› | (replace H := bind_some H; obtain ⟨_, _, H⟩ := H))); done) | (repeat (first | exact grd_p H | replace H := grd_k H | replace H := out_step H ‹_›))))
    | (with_reducible exact True.intro)
    | ((conv => whnf); first
        | (with_reducible refine And.intro ?_ ?_)
        | (with_reducible exact True.intro)
        | (with_reducible refine (?_ : Ob _))
        | ((with_reducible refine CallW.mk ?_); (repeat first | replace H := grd_k H | replace H := out_step H ‹_›); replace H := bind_some H; obtain ⟨y, hy, H⟩ := H; first | ((with_reducible have hz : impl_IsRopeway_1_i1 _ _ _ _ = some y := hy); clear hz; refine ⟨_, _, impl_IsRopeway_1_i1.call hy ?_, rfl, rfl, ?_⟩))
        | ((repeat first | replace H := grd_k H | replace H := out_step H ‹_›); refine loop_iter (G53_ok.at tok []) (ct := []) (F := (fun s1 : Int => ⟨sl [(0, (.tree ty_Slot a0)), (1, (.fn 126 [(.bptr [(.v (.int .i64 a100)), (.bl a101), (.v (.int .i64 a102))] 0)])), (7, (.v (.int .i64 (a0.length : Int)))), (8, (.v (.int .i64 s1)))], []⟩)) (step := (fun s : Int => slices_IndexFunc___impl_Slot_impl_Slot__i1_loop1 _ _ _ _ s)) _ H (by kernel_rfl) (sub_auto ?_) ?_; rotate_left; (intro s1 r v hr H); rotate_right)
        | ((repeat first | replace H := grd_k H | replace H := out_step H ‹_›); refine again_step H (by assumption) (sub_auto ?_))
        | ((with_reducible refine fin_mk ?_); (repeat first | replace H := grd_k H | replace H := out_step H ‹_›); have H := Option.some.inj H; subst H))
    | constructor
  all_goals exact viewz _ _
def G54 : Env := G53.add 156 [] slices_IndexFunc___impl_Slot_impl_Slot__i1.S
theorem G54_ok : EnvOk Tryz.prog G54 := G53_ok.add ent_156 fun ar h r h1 ⟨a0, a100, a101, a102, y, hy, e1, e2, e3, e4⟩ => by
  subst e3 e4; exact (slices_IndexFunc___impl_Slot_impl_Slot__i1.spec a0 a100 a101 a102 y hy).le e1 e2
attribute [local irreducible] slices_IndexFunc___impl_Slot_impl_Slot__i1

end Go.Proofs.YtaobinhdnklojaaGreatDoor
