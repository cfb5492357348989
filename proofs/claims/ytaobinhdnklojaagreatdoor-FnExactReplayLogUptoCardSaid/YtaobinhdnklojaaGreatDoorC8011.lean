/-
  Contracts, printed by a program.
-/
import Derived.Test.YtaobinhdnklojaaGreatDoorC807
namespace Go.Proofs.YtaobinhdnklojaaGreatDoor
open Go.RowKit
set_option maxHeartbeats 100000000
set_option maxRecDepth 100000
attribute [local irreducible] Ob loopwp Sub Spec Fin Again CallW CutC KOb iter

attribute [local irreducible] spec_l28Own spec_l25Good spec_l1Split spec_l1Num spec_l1Num_f spec_l27Good spec_l27Line spec_l27Log spec_l28Good spec_l25Find spec_l28Make spec_l28Word spec_ParseInt

noncomputable def spec_CabinAt (a0 : Ropeway) (a1 : Int) : Option (Int × Bool) :=
  ((spec_l25Good (a0.1, a0.2.1, a0.2.2.1, a0.2.2.2.1, a0.2.2.2.2.1, ())).bind fun y1 => (cond (!y1) ((some ((0 : Int), false))) (cond (decide (a1 < (1 : Int))) ((some ((0 : Int), false))) ((spec_l25Find (a0.1, a0.2.1, a0.2.2.1, a0.2.2.2.1, a0.2.2.2.2.1, ()) a1).bind fun y2 => (cond (decide (y2 < (0 : Int))) ((some ((0 : Int), false))) ((spec_l25Find (a0.1, a0.2.1, a0.2.2.1, a0.2.2.2.1, a0.2.2.2.2.1, ()) a1).bind fun y3 => (some (y3, true))))))))
def spec_CabinAt.res (_ : Ropeway) (_ : Int) (y : Int × Bool) : AV := (.tup [(.v (.int .i64 y.1)), (.bl y.2)])
def spec_CabinAt.out (_ : Ropeway) (_ : Int) (_ : Int × Bool) : List (Option LB) := []
def spec_CabinAt.S (ar : List AV) (h : List (Option LB)) (r : AV) (h1 : List (Option LB)) : Prop := ∃ a0 a1 y, spec_CabinAt a0 a1 = some y ∧ leL ar [(.agg [(.v (.int .i64 a0.1)), (.tree ty_Slot a0.2.1), (.v (.int .i64 a0.2.2.1)), (.v (.int .i64 a0.2.2.2.1)), (.v (.int .i64 a0.2.2.2.2.1))]), (.v (.int .i64 a1))] ∧ leH h [] ∧ r = spec_CabinAt.res a0 a1 y ∧ h1 = spec_CabinAt.out a0 a1 y
theorem spec_CabinAt.call {ar h a0 a1 y} (H : spec_CabinAt a0 a1 = some y) (h0 : leLk ar [(.agg [(.v (.int .i64 a0.1)), (.tree ty_Slot a0.2.1), (.v (.int .i64 a0.2.2.1)), (.v (.int .i64 a0.2.2.2.1)), (.v (.int .i64 a0.2.2.2.2.1))]), (.v (.int .i64 a1))] (leHk h [])) : spec_CabinAt.S ar h (spec_CabinAt.res a0 a1 y) (spec_CabinAt.out a0 a1 y) := ⟨a0, a1, y, H, (args_ok h0).1, (args_ok h0).2, rfl, rfl⟩
theorem spec_CabinAt.spec (a0 a1 y) (H : spec_CabinAt a0 a1 = some y) : Spec Tryz.prog 120 [(.agg [(.v (.int .i64 a0.1)), (.tree ty_Slot a0.2.1), (.v (.int .i64 a0.2.2.1)), (.v (.int .i64 a0.2.2.2.1)), (.v (.int .i64 a0.2.2.2.2.1))]), (.v (.int .i64 a1))] [] (spec_CabinAt.res a0 a1 y) (spec_CabinAt.out a0 a1 y) := by
  refine spec_intro (G42_ok.at tok []) (ct := [(2, some [1, 2, 18])]) Tryz.func120 rfl (by kernel_rfl) (by kernel_rfl) rfl ?_
  repeat' first
    | ((with_reducible refine eqg ?_); exact rfl)
    | ((with_reducible refine KOb.mk ?_); kernel_rfl)
    | ((with_reducible intro h); (repeat first | replace H := grd_k H | replace H := out_step H ‹_›); first | replace H := cond_t h H | replace H := cond_f h H | exact absurd h (by decide) | skip)
    | ((with_reducible refine Ob.mk ?_); first | (with_reducible rfl) | (first | ((repeat (first | (with_reducible exact grd_p H) | replace H := grd_k H | replace H := out_step H ‹_›)); done) | rfl | ((repeat (first | exact grd_p H | (have hp := grd_p H; exact hp) | replace H := grd_k H | replace H := out_step H ‹_› | (replace H := bind_some H; obtain ⟨_, _, H⟩ := H))); done) | (repeat (first | exact grd_p H | replace H := grd_k H | replace H := out_step H ‹_›))))
    | (with_reducible exact True.intro)
    | ((conv => whnf); first
        | (with_reducible refine And.intro ?_ ?_)
        | (with_reducible exact True.intro)
        | (with_reducible refine (?_ : Ob _))
        | ((with_reducible refine CallW.mk ?_); (repeat first | replace H := grd_k H | replace H := out_step H ‹_›); replace H := bind_some H; obtain ⟨y, hy, H⟩ := H; first | ((with_reducible have hz : spec_l25Good _ = some y := hy); clear hz; refine ⟨_, _, spec_l25Good.call hy ?_, rfl, rfl, ?_⟩) | ((with_reducible have hz : spec_l25Find _ _ = some y := hy); clear hz; refine ⟨_, _, spec_l25Find.call hy ?_, rfl, rfl, ?_⟩))
        | ((with_reducible refine fin_mk ?_); (repeat first | replace H := grd_k H | replace H := out_step H ‹_›); have H := Option.some.inj H; subst H))
    | constructor
def G43 : Env := G42.add 120 [] spec_CabinAt.S
theorem G43_ok : EnvOk Tryz.prog G43 := G42_ok.add ent_120 fun ar h r h1 ⟨a0, a1, y, hy, e1, e2, e3, e4⟩ => by
  subst e3 e4; exact (spec_CabinAt.spec a0 a1 y hy).le e1 e2
attribute [local irreducible] spec_CabinAt

noncomputable def spec_TurnsTo (a0 : Ropeway) (a1 : Int) (a2 : Bool) : Option (Int × Bool) :=
  ((spec_CabinAt (a0.1, a0.2.1, a0.2.2.1, a0.2.2.2.1, a0.2.2.2.2.1, ()) a1).bind fun y1 => (cond (!y1.2) ((some ((0 : Int), false))) (cond a2 (grd ((2 : Int) ≠ 0) (grd ((a0.2.1.length : Int) ≠ 0) ((some ((Int.tmod (w64 ((w64 ((w64 (Int.tdiv (a0.2.1.length : Int) (2 : Int))) - y1.1)) + (a0.2.1.length : Int))) (a0.2.1.length : Int)), true))))) (grd ((a0.2.1.length : Int) ≠ 0) ((some ((Int.tmod (w64 ((w64 ((0 : Int) - y1.1)) + (a0.2.1.length : Int))) (a0.2.1.length : Int)), true)))))))
def spec_TurnsTo.res (_ : Ropeway) (_ : Int) (_ : Bool) (y : Int × Bool) : AV := (.tup [(.v (.int .i64 y.1)), (.bl y.2)])
def spec_TurnsTo.out (_ : Ropeway) (_ : Int) (_ : Bool) (_ : Int × Bool) : List (Option LB) := []
def spec_TurnsTo.S (ar : List AV) (h : List (Option LB)) (r : AV) (h1 : List (Option LB)) : Prop := ∃ a0 a1 a2 y, spec_TurnsTo a0 a1 a2 = some y ∧ leL ar [(.agg [(.v (.int .i64 a0.1)), (.tree ty_Slot a0.2.1), (.v (.int .i64 a0.2.2.1)), (.v (.int .i64 a0.2.2.2.1)), (.v (.int .i64 a0.2.2.2.2.1))]), (.v (.int .i64 a1)), (.bl a2)] ∧ leH h [] ∧ r = spec_TurnsTo.res a0 a1 a2 y ∧ h1 = spec_TurnsTo.out a0 a1 a2 y
theorem spec_TurnsTo.call {ar h a0 a1 a2 y} (H : spec_TurnsTo a0 a1 a2 = some y) (h0 : leLk ar [(.agg [(.v (.int .i64 a0.1)), (.tree ty_Slot a0.2.1), (.v (.int .i64 a0.2.2.1)), (.v (.int .i64 a0.2.2.2.1)), (.v (.int .i64 a0.2.2.2.2.1))]), (.v (.int .i64 a1)), (.bl a2)] (leHk h [])) : spec_TurnsTo.S ar h (spec_TurnsTo.res a0 a1 a2 y) (spec_TurnsTo.out a0 a1 a2 y) := ⟨a0, a1, a2, y, H, (args_ok h0).1, (args_ok h0).2, rfl, rfl⟩
theorem spec_TurnsTo.spec (a0 a1 a2 y) (H : spec_TurnsTo a0 a1 a2 = some y) : Spec Tryz.prog 121 [(.agg [(.v (.int .i64 a0.1)), (.tree ty_Slot a0.2.1), (.v (.int .i64 a0.2.2.1)), (.v (.int .i64 a0.2.2.2.1)), (.v (.int .i64 a0.2.2.2.2.1))]), (.v (.int .i64 a1)), (.bl a2)] [] (spec_TurnsTo.res a0 a1 a2 y) (spec_TurnsTo.out a0 a1 a2 y) := by
  refine spec_intro (G43_ok.at tok []) (ct := [(4, some [2, 3, 8])]) Tryz.func121 rfl (by kernel_rfl) (by kernel_rfl) rfl ?_
  repeat' first
    | ((with_reducible refine eqg ?_); exact rfl)
    | ((with_reducible refine KOb.mk ?_); kernel_rfl)
    | ((with_reducible intro h); (repeat first | replace H := grd_k H | replace H := out_step H ‹_›); first | replace H := cond_t h H | replace H := cond_f h H | exact absurd h (by decide) | skip)
    | ((with_reducible refine Ob.mk ?_); first | (with_reducible rfl) | (first | ((repeat (first | (with_reducible exact grd_p H) | replace H := grd_k H | replace H := out_step H ‹_›)); done) | rfl | ((repeat (first | exact grd_p H | (have hp := grd_p H; exact hp) | replace H := grd_k H | replace H := out_step H ‹_› | (replace H := bind_some H; obtain ⟨_, _, H⟩ := H))); done) | (repeat (first | exact grd_p H | replace H := grd_k H | replace H := out_step H ‹_›))))
    | (with_reducible exact True.intro)
    | ((conv => whnf); first
        | (with_reducible refine And.intro ?_ ?_)
        | (with_reducible exact True.intro)
        | (with_reducible refine (?_ : Ob _))
        | ((with_reducible refine CallW.mk ?_); (repeat first | replace H := grd_k H | replace H := out_step H ‹_›); replace H := bind_some H; obtain ⟨y, hy, H⟩ := H; first | ((with_reducible have hz : spec_CabinAt _ _ = some y := hy); clear hz; refine ⟨_, _, spec_CabinAt.call hy ?_, rfl, rfl, ?_⟩))
        | ((with_reducible refine fin_mk ?_); (repeat first | replace H := grd_k H | replace H := out_step H ‹_›); have H := Option.some.inj H; subst H))
    | constructor
def G44 : Env := G43.add 121 [] spec_TurnsTo.S
theorem G44_ok : EnvOk Tryz.prog G44 := G43_ok.add ent_121 fun ar h r h1 ⟨a0, a1, a2, y, hy, e1, e2, e3, e4⟩ => by
  subst e3 e4; exact (spec_TurnsTo.spec a0 a1 a2 y hy).le e1 e2
attribute [local irreducible] spec_TurnsTo

noncomputable def spec_l28One (a0 : Console) (a1 : ByteArray) (a2 : Int) : Option ((Console × ByteArray × (List Slot)) ⊕ (Console × ByteArray × (List Slot))) :=
  (cond (decide (a1 = (ByteArray.mk #[104, 97, 110, 103]))) ((spec_l28Make ((a0.1.1, a0.1.2.1, a0.1.2.2.1, a0.1.2.2.2.1, a0.1.2.2.2.2.1, ()), (a0.2.1.1, a0.2.1.2.1, a0.2.1.2.2.1, ()), ()) (3 : Int) a2).bind (Sum.elim (fun y2 => (some (Sum.inl (((y2.1.1.1, y2.2.2, y2.1.1.2.2.1, y2.1.1.2.2.2.1, y2.1.1.2.2.2.2.1, ()), (y2.1.2.1.1, y2.1.2.1.2.1, y2.1.2.1.2.2.1, ()), ()), y2.2.1, y2.2.2)))) (fun y3 => (some (Sum.inr (((y3.1.1.1, y3.1.1.2.1, y3.1.1.2.2.1, y3.1.1.2.2.2.1, y3.1.1.2.2.2.2.1, ()), (y3.1.2.1.1, y3.1.2.1.2.1, y3.1.2.1.2.2.1, ()), ()), y3.2.1, y3.2.2)))))) (cond (decide (a1 = (ByteArray.mk #[100, 111, 111, 114]))) ((spec_l28Make ((a0.1.1, a0.1.2.1, a0.1.2.2.1, a0.1.2.2.2.1, a0.1.2.2.2.2.1, ()), (a0.2.1.1, a0.2.1.2.1, a0.2.1.2.2.1, ()), ()) (7 : Int) a2).bind (Sum.elim (fun y5 => (some (Sum.inl (((y5.1.1.1, y5.2.2, y5.1.1.2.2.1, y5.1.1.2.2.2.1, y5.1.1.2.2.2.2.1, ()), (y5.1.2.1.1, y5.1.2.1.2.1, y5.1.2.1.2.2.1, ()), ()), y5.2.1, y5.2.2)))) (fun y6 => (some (Sum.inr (((y6.1.1.1, y6.1.1.2.1, y6.1.1.2.2.1, y6.1.1.2.2.2.1, y6.1.1.2.2.2.2.1, ()), (y6.1.2.1.1, y6.1.2.1.2.1, y6.1.2.1.2.2.1, ()), ()), y6.2.1, y6.2.2)))))) (cond (decide (a1 = (ByteArray.mk #[98, 111, 97, 114, 100]))) ((spec_l28Make ((a0.1.1, a0.1.2.1, a0.1.2.2.1, a0.1.2.2.2.1, a0.1.2.2.2.2.1, ()), (a0.2.1.1, a0.2.1.2.1, a0.2.1.2.2.1, ()), ()) (5 : Int) a2).bind (Sum.elim (fun y8 => (some (Sum.inl (((y8.1.1.1, y8.2.2, y8.1.1.2.2.1, y8.1.1.2.2.2.1, y8.1.1.2.2.2.2.1, ()), (y8.1.2.1.1, y8.1.2.1.2.1, y8.1.2.1.2.2.1, ()), ()), y8.2.1, y8.2.2)))) (fun y9 => (some (Sum.inr (((y9.1.1.1, y9.1.1.2.1, y9.1.1.2.2.1, y9.1.1.2.2.2.1, y9.1.1.2.2.2.2.1, ()), (y9.1.2.1.1, y9.1.2.1.2.1, y9.1.2.1.2.2.1, ()), ()), y9.2.1, y9.2.2)))))) (cond (decide (a1 = (ByteArray.mk #[108, 101, 97, 118, 101]))) ((spec_l28Make ((a0.1.1, a0.1.2.1, a0.1.2.2.1, a0.1.2.2.2.1, a0.1.2.2.2.2.1, ()), (a0.2.1.1, a0.2.1.2.1, a0.2.1.2.2.1, ()), ()) (6 : Int) a2).bind (Sum.elim (fun y11 => (some (Sum.inl (((y11.1.1.1, y11.2.2, y11.1.1.2.2.1, y11.1.1.2.2.2.1, y11.1.1.2.2.2.2.1, ()), (y11.1.2.1.1, y11.1.2.1.2.1, y11.1.2.1.2.2.1, ()), ()), y11.2.1, y11.2.2)))) (fun y12 => (some (Sum.inr (((y12.1.1.1, y12.1.1.2.1, y12.1.1.2.2.1, y12.1.1.2.2.2.1, y12.1.1.2.2.2.2.1, ()), (y12.1.2.1.1, y12.1.2.1.2.1, y12.1.2.1.2.2.1, ()), ()), y12.2.1, y12.2.2)))))) (cond (decide (a1 = (ByteArray.mk #[99, 97, 98, 105, 110]))) ((spec_CabinAt (a0.1.1, a0.1.2.1, a0.1.2.2.1, a0.1.2.2.2.1, a0.1.2.2.2.2.1, ()) a2).bind fun y13 => (cond (!y13.2) ((some (Sum.inl (((a0.1.1, a0.1.2.1, a0.1.2.2.1, a0.1.2.2.2.1, a0.1.2.2.2.2.1, ()), (a0.2.1.1, a0.2.1.2.1, a0.2.1.2.2.1, ()), ()), (ByteArray.mk #[63]), a0.1.2.1)))) ((spec_l1Num y13.1).bind fun y14 => (some (Sum.inl (((a0.1.1, a0.1.2.1, a0.1.2.2.1, a0.1.2.2.2.1, a0.1.2.2.2.2.1, ()), (a0.2.1.1, a0.2.1.2.1, a0.2.1.2.2.1, ()), ()), y14, a0.1.2.1)))))) (cond (decide (a1 = (ByteArray.mk #[117, 112]))) ((spec_TurnsTo (a0.1.1, a0.1.2.1, a0.1.2.2.1, a0.1.2.2.2.1, a0.1.2.2.2.2.1, ()) a2 true).bind fun y15 => (cond (!y15.2) ((some (Sum.inl (((a0.1.1, a0.1.2.1, a0.1.2.2.1, a0.1.2.2.2.1, a0.1.2.2.2.2.1, ()), (a0.2.1.1, a0.2.1.2.1, a0.2.1.2.2.1, ()), ()), (ByteArray.mk #[63]), a0.1.2.1)))) ((spec_l1Num y15.1).bind fun y16 => (some (Sum.inl (((a0.1.1, a0.1.2.1, a0.1.2.2.1, a0.1.2.2.2.1, a0.1.2.2.2.2.1, ()), (a0.2.1.1, a0.2.1.2.1, a0.2.1.2.2.1, ()), ()), y16, a0.1.2.1)))))) (cond (decide (a1 = (ByteArray.mk #[100, 111, 119, 110]))) ((spec_TurnsTo (a0.1.1, a0.1.2.1, a0.1.2.2.1, a0.1.2.2.2.1, a0.1.2.2.2.2.1, ()) a2 false).bind fun y17 => (cond (!y17.2) ((some (Sum.inl (((a0.1.1, a0.1.2.1, a0.1.2.2.1, a0.1.2.2.2.1, a0.1.2.2.2.2.1, ()), (a0.2.1.1, a0.2.1.2.1, a0.2.1.2.2.1, ()), ()), (ByteArray.mk #[63]), a0.1.2.1)))) ((spec_l1Num y17.1).bind fun y18 => (some (Sum.inl (((a0.1.1, a0.1.2.1, a0.1.2.2.1, a0.1.2.2.2.1, a0.1.2.2.2.2.1, ()), (a0.2.1.1, a0.2.1.2.1, a0.2.1.2.2.1, ()), ()), y18, a0.1.2.1)))))) ((some (Sum.inl (((a0.1.1, a0.1.2.1, a0.1.2.2.1, a0.1.2.2.2.1, a0.1.2.2.2.2.1, ()), (a0.2.1.1, a0.2.1.2.1, a0.2.1.2.2.1, ()), ()), (ByteArray.mk #[63]), a0.1.2.1)))))))))))
def spec_l28One.res (_ : Console) (_ : ByteArray) (_ : Int) (y : (Console × ByteArray × (List Slot)) ⊕ (Console × ByteArray × (List Slot))) : AV := match y with
  | (.inl y) => (.tup [(.agg [(.v (.int .i64 y.1.1.1)), (.own 0), (.v (.int .i64 y.1.1.2.2.1)), (.v (.int .i64 y.1.1.2.2.2.1)), (.v (.int .i64 y.1.1.2.2.2.2.1)), (.v (.string y.1.2.1.1)), (.v (.string y.1.2.1.2.1)), (.v (.int .i64 y.1.2.1.2.2.1))]), (.v (.string y.2.1))])
  | (.inr y) => (.tup [(.agg [(.v (.int .i64 y.1.1.1)), (.own 1), (.v (.int .i64 y.1.1.2.2.1)), (.v (.int .i64 y.1.1.2.2.2.1)), (.v (.int .i64 y.1.1.2.2.2.2.1)), (.v (.string y.1.2.1.1)), (.v (.string y.1.2.1.2.1)), (.v (.int .i64 y.1.2.1.2.2.1))]), (.v (.string y.2.1))])
def spec_l28One.out (_ : Console) (_ : ByteArray) (_ : Int) (y : (Console × ByteArray × (List Slot)) ⊕ (Console × ByteArray × (List Slot))) : List (Option LB) := match y with
  | (.inl y) => [some (.arr 96 ty_Slot y.2.2)]
  | (.inr y) => [some (.arr 96 ty_Slot y.2.2), some (.arr 96 ty_Slot y.1.1.2.1)]
def spec_l28One.S (ar : List AV) (h : List (Option LB)) (r : AV) (h1 : List (Option LB)) : Prop := ∃ a0 a1 a2 y, spec_l28One a0 a1 a2 = some y ∧ leL ar [(.agg [(.v (.int .i64 a0.1.1)), (.own 0), (.v (.int .i64 a0.1.2.2.1)), (.v (.int .i64 a0.1.2.2.2.1)), (.v (.int .i64 a0.1.2.2.2.2.1)), (.v (.string a0.2.1.1)), (.v (.string a0.2.1.2.1)), (.v (.int .i64 a0.2.1.2.2.1))]), (.v (.string a1)), (.v (.int .i64 a2))] ∧ leH h [some (.arr 96 ty_Slot a0.1.2.1)] ∧ r = spec_l28One.res a0 a1 a2 y ∧ h1 = spec_l28One.out a0 a1 a2 y
theorem spec_l28One.call {ar h a0 a1 a2 y} (H : spec_l28One a0 a1 a2 = some y) (h0 : leLk ar [(.agg [(.v (.int .i64 a0.1.1)), (.own 0), (.v (.int .i64 a0.1.2.2.1)), (.v (.int .i64 a0.1.2.2.2.1)), (.v (.int .i64 a0.1.2.2.2.2.1)), (.v (.string a0.2.1.1)), (.v (.string a0.2.1.2.1)), (.v (.int .i64 a0.2.1.2.2.1))]), (.v (.string a1)), (.v (.int .i64 a2))] (leHk h [some (.arr 96 ty_Slot a0.1.2.1)])) : spec_l28One.S ar h (spec_l28One.res a0 a1 a2 y) (spec_l28One.out a0 a1 a2 y) := ⟨a0, a1, a2, y, H, (args_ok h0).1, (args_ok h0).2, rfl, rfl⟩
theorem spec_l28One.spec (a0 a1 a2 y) (H : spec_l28One a0 a1 a2 = some y) : Spec Tryz.prog 81 [(.agg [(.v (.int .i64 a0.1.1)), (.own 0), (.v (.int .i64 a0.1.2.2.1)), (.v (.int .i64 a0.1.2.2.2.1)), (.v (.int .i64 a0.1.2.2.2.2.1)), (.v (.string a0.2.1.1)), (.v (.string a0.2.1.2.1)), (.v (.int .i64 a0.2.1.2.2.1))]), (.v (.string a1)), (.v (.int .i64 a2))] [some (.arr 96 ty_Slot a0.1.2.1)] (spec_l28One.res a0 a1 a2 y) (spec_l28One.out a0 a1 a2 y) := by
  have hlen : Nat.ble ([some (.arr 96 ty_Slot a0.1.2.1)] : List (Option LB)).length (spec_l28One.out a0 a1 a2 y).length = true := by
    rcases y with y | y <;> rfl
  refine spec_intro (G44_ok.at tok []) (ct := [(10, some [2, 3, 6, 8, 9, 10, 32]), (17, some [3, 6, 8, 9])]) Tryz.func81 rfl (by kernel_rfl) (by kernel_rfl) hlen ?_
  repeat' first
    | ((with_reducible refine eqg ?_); exact rfl)
    | ((with_reducible refine KOb.mk ?_); kernel_rfl)
    | ((with_reducible intro h); (repeat first | replace H := grd_k H | replace H := out_step H ‹_›); first | replace H := cond_t h H | replace H := cond_f h H | exact absurd h (by decide) | skip)
    | ((with_reducible refine Ob.mk ?_); first | (with_reducible rfl) | (first | ((repeat (first | (with_reducible exact grd_p H) | replace H := grd_k H | replace H := out_step H ‹_›)); done) | rfl | ((repeat (first | exact grd_p H | (have hp := grd_p H; exact hp) | replace H := grd_k H | replace H := out_step H ‹_› | (replace H := bind_some H; obtain ⟨_, _, H⟩ := H))); done) | (repeat (first | exact grd_p H | replace H := grd_k H | replace H := out_step H ‹_›))))
    | (with_reducible exact True.intro)
    | ((conv => whnf); first
        | (with_reducible refine And.intro ?_ ?_)
        | (with_reducible exact True.intro)
        | (with_reducible refine (?_ : Ob _))
        | ((with_reducible refine CallW.mk ?_); (repeat first | replace H := grd_k H | replace H := out_step H ‹_›); replace H := bind_some H; obtain ⟨y, hy, H⟩ := H; first | ((with_reducible have hz : spec_l28Make _ _ _ = some y := hy); clear hz; rcases y with y | y <;> refine ⟨_, _, spec_l28Make.call hy ?_, rfl, rfl, ?_⟩) | ((with_reducible have hz : spec_CabinAt _ _ = some y := hy); clear hz; refine ⟨_, _, spec_CabinAt.call hy ?_, rfl, rfl, ?_⟩) | ((with_reducible have hz : spec_l1Num _ = some y := hy); clear hz; refine ⟨_, _, spec_l1Num.call hy ?_, rfl, rfl, ?_⟩) | ((with_reducible have hz : spec_TurnsTo _ _ _ = some y := hy); clear hz; refine ⟨_, _, spec_TurnsTo.call hy ?_, rfl, rfl, ?_⟩))
        | ((with_reducible refine fin_mk ?_); (repeat first | replace H := grd_k H | replace H := out_step H ‹_›); have H := Option.some.inj H; subst H))
    | constructor
def G45 : Env := G44.add 81 [true] spec_l28One.S
theorem G45_ok : EnvOk Tryz.prog G45 := G44_ok.add ent_81 fun ar h r h1 ⟨a0, a1, a2, y, hy, e1, e2, e3, e4⟩ => by
  subst e3 e4; exact (spec_l28One.spec a0 a1 a2 y hy).le e1 e2
attribute [local irreducible] spec_l28One

noncomputable def spec_l28Run (a0 : Console) (a1 : ByteArray) : Option ((Console × ByteArray × (List Slot)) ⊕ (Console × ByteArray × (List Slot))) :=
  ((spec_l1Split a1 (32 : Int)).bind fun y1 => (cond (decide ((y1.length : Int) = (1 : Int))) ((spec_l28Word ((a0.1.1, a0.1.2.1, a0.1.2.2.1, a0.1.2.2.2.1, a0.1.2.2.2.2.1, ()), (a0.2.1.1, a0.2.1.2.1, a0.2.1.2.2.1, ()), ()) a1).bind (Sum.elim (fun y3 => (some (Sum.inl (((y3.1.1.1, y3.2.2, y3.1.1.2.2.1, y3.1.1.2.2.2.1, y3.1.1.2.2.2.2.1, ()), (y3.1.2.1.1, y3.1.2.1.2.1, y3.1.2.1.2.2.1, ()), ()), y3.2.1, y3.2.2)))) (fun y4 => (some (Sum.inr (((y4.1.1.1, y4.1.1.2.1, y4.1.1.2.2.1, y4.1.1.2.2.2.1, y4.1.1.2.2.2.2.1, ()), (y4.1.2.1.1, y4.1.2.1.2.1, y4.1.2.1.2.2.1, ()), ()), y4.2.1, y4.2.2)))))) (grd (0 ≤ (1 : Int) ∧ (1 : Int) < (y1.length : Int)) ((spec_ParseInt (y1.getD ((1 : Int).toNat) (ByteArray.mk #[]))).bind fun y5 => (cond (!y5.2) ((some (Sum.inl (((a0.1.1, a0.1.2.1, a0.1.2.2.1, a0.1.2.2.2.1, a0.1.2.2.2.2.1, ()), (a0.2.1.1, a0.2.1.2.1, a0.2.1.2.2.1, ()), ()), (ByteArray.mk #[63]), a0.1.2.1)))) (cond (!decide ((y1.length : Int) = (2 : Int))) ((some (Sum.inl (((a0.1.1, a0.1.2.1, a0.1.2.2.1, a0.1.2.2.2.1, a0.1.2.2.2.2.1, ()), (a0.2.1.1, a0.2.1.2.1, a0.2.1.2.2.1, ()), ()), (ByteArray.mk #[63]), a0.1.2.1)))) (grd (0 ≤ (0 : Int) ∧ (0 : Int) < (y1.length : Int)) ((spec_l28One ((a0.1.1, a0.1.2.1, a0.1.2.2.1, a0.1.2.2.2.1, a0.1.2.2.2.2.1, ()), (a0.2.1.1, a0.2.1.2.1, a0.2.1.2.2.1, ()), ()) (y1.getD ((0 : Int).toNat) (ByteArray.mk #[])) y5.1).bind (Sum.elim (fun y7 => (some (Sum.inl (((y7.1.1.1, y7.2.2, y7.1.1.2.2.1, y7.1.1.2.2.2.1, y7.1.1.2.2.2.2.1, ()), (y7.1.2.1.1, y7.1.2.1.2.1, y7.1.2.1.2.2.1, ()), ()), y7.2.1, y7.2.2)))) (fun y8 => (some (Sum.inr (((y8.1.1.1, y8.1.1.2.1, y8.1.1.2.2.1, y8.1.1.2.2.2.1, y8.1.1.2.2.2.2.1, ()), (y8.1.2.1.1, y8.1.2.1.2.1, y8.1.2.1.2.2.1, ()), ()), y8.2.1, y8.2.2)))))))))))))
def spec_l28Run.res (_ : Console) (_ : ByteArray) (y : (Console × ByteArray × (List Slot)) ⊕ (Console × ByteArray × (List Slot))) : AV := match y with
  | (.inl y) => (.tup [(.agg [(.v (.int .i64 y.1.1.1)), (.own 0), (.v (.int .i64 y.1.1.2.2.1)), (.v (.int .i64 y.1.1.2.2.2.1)), (.v (.int .i64 y.1.1.2.2.2.2.1)), (.v (.string y.1.2.1.1)), (.v (.string y.1.2.1.2.1)), (.v (.int .i64 y.1.2.1.2.2.1))]), (.v (.string y.2.1))])
  | (.inr y) => (.tup [(.agg [(.v (.int .i64 y.1.1.1)), (.own 1), (.v (.int .i64 y.1.1.2.2.1)), (.v (.int .i64 y.1.1.2.2.2.1)), (.v (.int .i64 y.1.1.2.2.2.2.1)), (.v (.string y.1.2.1.1)), (.v (.string y.1.2.1.2.1)), (.v (.int .i64 y.1.2.1.2.2.1))]), (.v (.string y.2.1))])
def spec_l28Run.out (_ : Console) (_ : ByteArray) (y : (Console × ByteArray × (List Slot)) ⊕ (Console × ByteArray × (List Slot))) : List (Option LB) := match y with
  | (.inl y) => [some (.arr 96 ty_Slot y.2.2)]
  | (.inr y) => [some (.arr 96 ty_Slot y.2.2), some (.arr 96 ty_Slot y.1.1.2.1)]
def spec_l28Run.S (ar : List AV) (h : List (Option LB)) (r : AV) (h1 : List (Option LB)) : Prop := ∃ a0 a1 y, spec_l28Run a0 a1 = some y ∧ leL ar [(.agg [(.v (.int .i64 a0.1.1)), (.own 0), (.v (.int .i64 a0.1.2.2.1)), (.v (.int .i64 a0.1.2.2.2.1)), (.v (.int .i64 a0.1.2.2.2.2.1)), (.v (.string a0.2.1.1)), (.v (.string a0.2.1.2.1)), (.v (.int .i64 a0.2.1.2.2.1))]), (.v (.string a1))] ∧ leH h [some (.arr 96 ty_Slot a0.1.2.1)] ∧ r = spec_l28Run.res a0 a1 y ∧ h1 = spec_l28Run.out a0 a1 y
theorem spec_l28Run.call {ar h a0 a1 y} (H : spec_l28Run a0 a1 = some y) (h0 : leLk ar [(.agg [(.v (.int .i64 a0.1.1)), (.own 0), (.v (.int .i64 a0.1.2.2.1)), (.v (.int .i64 a0.1.2.2.2.1)), (.v (.int .i64 a0.1.2.2.2.2.1)), (.v (.string a0.2.1.1)), (.v (.string a0.2.1.2.1)), (.v (.int .i64 a0.2.1.2.2.1))]), (.v (.string a1))] (leHk h [some (.arr 96 ty_Slot a0.1.2.1)])) : spec_l28Run.S ar h (spec_l28Run.res a0 a1 y) (spec_l28Run.out a0 a1 y) := ⟨a0, a1, y, H, (args_ok h0).1, (args_ok h0).2, rfl, rfl⟩
theorem spec_l28Run.spec (a0 a1 y) (H : spec_l28Run a0 a1 = some y) : Spec Tryz.prog 42 [(.agg [(.v (.int .i64 a0.1.1)), (.own 0), (.v (.int .i64 a0.1.2.2.1)), (.v (.int .i64 a0.1.2.2.2.1)), (.v (.int .i64 a0.1.2.2.2.2.1)), (.v (.string a0.2.1.1)), (.v (.string a0.2.1.2.1)), (.v (.int .i64 a0.2.1.2.2.1))]), (.v (.string a1))] [some (.arr 96 ty_Slot a0.1.2.1)] (spec_l28Run.res a0 a1 y) (spec_l28Run.out a0 a1 y) := by
  have hlen : Nat.ble ([some (.arr 96 ty_Slot a0.1.2.1)] : List (Option LB)).length (spec_l28Run.out a0 a1 y).length = true := by
    rcases y with y | y <;> rfl
  refine spec_intro (G45_ok.at tok []) (ct := [(4, some [2, 4, 6, 29, 30, 31]), (6, some [2, 4, 6, 7, 32])]) Tryz.func42 rfl (by kernel_rfl) (by kernel_rfl) hlen ?_
  repeat' first
    | ((with_reducible refine eqg ?_); exact rfl)
    | ((with_reducible refine KOb.mk ?_); kernel_rfl)
    | ((with_reducible intro h); (repeat first | replace H := grd_k H | replace H := out_step H ‹_›); first | replace H := cond_t h H | replace H := cond_f h H | exact absurd h (by decide) | skip)
    | ((with_reducible refine Ob.mk ?_); first | (with_reducible rfl) | (first | ((repeat (first | (with_reducible exact grd_p H) | replace H := grd_k H | replace H := out_step H ‹_›)); done) | rfl | ((repeat (first | exact grd_p H | (have hp := grd_p H; exact hp) | replace H := grd_k H | replace H := out_step H ‹_› | (replace H := bind_some H; obtain ⟨_, _, H⟩ := H))); done) | (repeat (first | exact grd_p H | replace H := grd_k H | replace H := out_step H ‹_›))))
    | (with_reducible exact True.intro)
    | ((conv => whnf); first
        | (with_reducible refine And.intro ?_ ?_)
        | (with_reducible exact True.intro)
        | (with_reducible refine (?_ : Ob _))
        | ((with_reducible refine CallW.mk ?_); (repeat first | replace H := grd_k H | replace H := out_step H ‹_›); replace H := bind_some H; obtain ⟨y, hy, H⟩ := H; first | ((with_reducible have hz : spec_l1Split _ _ = some y := hy); clear hz; refine ⟨_, _, spec_l1Split.call hy ?_, rfl, rfl, ?_⟩) | ((with_reducible have hz : spec_l28Word _ _ = some y := hy); clear hz; rcases y with y | y <;> refine ⟨_, _, spec_l28Word.call hy ?_, rfl, rfl, ?_⟩) | ((with_reducible have hz : spec_ParseInt _ = some y := hy); clear hz; refine ⟨_, _, spec_ParseInt.call hy ?_, rfl, rfl, ?_⟩) | ((with_reducible have hz : spec_l28One _ _ _ = some y := hy); clear hz; rcases y with y | y <;> refine ⟨_, _, spec_l28One.call hy ?_, rfl, rfl, ?_⟩))
        | ((with_reducible refine fin_mk ?_); (repeat first | replace H := grd_k H | replace H := out_step H ‹_›); have H := Option.some.inj H; subst H))
    | constructor
def G46 : Env := G45.add 42 [true] spec_l28Run.S
theorem G46_ok : EnvOk Tryz.prog G46 := G45_ok.add ent_42 fun ar h r h1 ⟨a0, a1, y, hy, e1, e2, e3, e4⟩ => by
  subst e3 e4; exact (spec_l28Run.spec a0 a1 y hy).le e1 e2
attribute [local irreducible] spec_l28Run

noncomputable def spec_AppendRecord (a0 : Log) (a1 : LogRecord) : Option (Log × Int) :=
  ((spec_l27Log (a0.1, a0.2.1, a0.2.2.1, ())).bind fun y1 => (cond (!y1) ((some ((a0.1, a0.2.1, a0.2.2.1, ()), (1 : Int)))) ((spec_l27Good (a1.1, a1.2.1, ())).bind fun y2 => (cond (!y2) ((some ((a0.1, a0.2.1, a0.2.2.1, ()), (1 : Int)))) (cond (decide (a0.2.2.1 = (60 : Int))) ((some ((a0.1, a0.2.1, a0.2.2.1, ()), (2 : Int)))) ((spec_l27Line a0.2.2.1 (a1.1, a1.2.1, ())).bind fun y3 => (grd (a0.2.1.size + y3.size ≤ 9223372036854775807) ((some ((a0.1, (a0.2.1 ++ y3), (w64 (a0.2.2.1 + (1 : Int))), ()), (0 : Int)))))))))))
def spec_AppendRecord.res (_ : Log) (_ : LogRecord) (y : Log × Int) : AV := (.tup [(.agg [(.v (.string y.1.1)), (.v (.string y.1.2.1)), (.v (.int .i64 y.1.2.2.1))]), (.v (.int .i64 y.2))])
def spec_AppendRecord.out (_ : Log) (_ : LogRecord) (_ : Log × Int) : List (Option LB) := []
def spec_AppendRecord.S (ar : List AV) (h : List (Option LB)) (r : AV) (h1 : List (Option LB)) : Prop := ∃ a0 a1 y, spec_AppendRecord a0 a1 = some y ∧ leL ar [(.agg [(.v (.string a0.1)), (.v (.string a0.2.1)), (.v (.int .i64 a0.2.2.1))]), (.agg [(.v (.string a1.1)), (.v (.string a1.2.1))])] ∧ leH h [] ∧ r = spec_AppendRecord.res a0 a1 y ∧ h1 = spec_AppendRecord.out a0 a1 y
theorem spec_AppendRecord.call {ar h a0 a1 y} (H : spec_AppendRecord a0 a1 = some y) (h0 : leLk ar [(.agg [(.v (.string a0.1)), (.v (.string a0.2.1)), (.v (.int .i64 a0.2.2.1))]), (.agg [(.v (.string a1.1)), (.v (.string a1.2.1))])] (leHk h [])) : spec_AppendRecord.S ar h (spec_AppendRecord.res a0 a1 y) (spec_AppendRecord.out a0 a1 y) := ⟨a0, a1, y, H, (args_ok h0).1, (args_ok h0).2, rfl, rfl⟩
theorem spec_AppendRecord.spec (a0 a1 y) (H : spec_AppendRecord a0 a1 = some y) : Spec Tryz.prog 43 [(.agg [(.v (.string a0.1)), (.v (.string a0.2.1)), (.v (.int .i64 a0.2.2.1))]), (.agg [(.v (.string a1.1)), (.v (.string a1.2.1))])] [] (spec_AppendRecord.res a0 a1 y) (spec_AppendRecord.out a0 a1 y) := by
  refine spec_intro (G46_ok.at tok []) (ct := [(3, some [2, 3, 4]), (7, some [2, 4])]) Tryz.func43 rfl (by kernel_rfl) (by kernel_rfl) rfl ?_
  repeat' first
    | ((with_reducible refine eqg ?_); exact rfl)
    | ((with_reducible refine KOb.mk ?_); kernel_rfl)
    | ((with_reducible intro h); (repeat first | replace H := grd_k H | replace H := out_step H ‹_›); first | replace H := cond_t h H | replace H := cond_f h H | exact absurd h (by decide) | skip)
    | ((with_reducible refine Ob.mk ?_); first | (with_reducible rfl) | (first | ((repeat (first | (with_reducible exact grd_p H) | replace H := grd_k H | replace H := out_step H ‹_›)); done) | rfl | ((repeat (first | exact grd_p H | (have hp := grd_p H; exact hp) | replace H := grd_k H | replace H := out_step H ‹_› | (replace H := bind_some H; obtain ⟨_, _, H⟩ := H))); done) | (repeat (first | exact grd_p H | replace H := grd_k H | replace H := out_step H ‹_›))))
    | (with_reducible exact True.intro)
    | ((conv => whnf); first
        | (with_reducible refine And.intro ?_ ?_)
        | (with_reducible exact True.intro)
        | (with_reducible refine (?_ : Ob _))
        | ((with_reducible refine CallW.mk ?_); (repeat first | replace H := grd_k H | replace H := out_step H ‹_›); replace H := bind_some H; obtain ⟨y, hy, H⟩ := H; first | ((with_reducible have hz : spec_l27Log _ = some y := hy); clear hz; refine ⟨_, _, spec_l27Log.call hy ?_, rfl, rfl, ?_⟩) | ((with_reducible have hz : spec_l27Good _ = some y := hy); clear hz; refine ⟨_, _, spec_l27Good.call hy ?_, rfl, rfl, ?_⟩) | ((with_reducible have hz : spec_l27Line _ _ = some y := hy); clear hz; refine ⟨_, _, spec_l27Line.call hy ?_, rfl, rfl, ?_⟩))
        | ((with_reducible refine fin_mk ?_); (repeat first | replace H := grd_k H | replace H := out_step H ‹_›); have H := Option.some.inj H; subst H))
    | constructor
def G47 : Env := G46.add 43 [] spec_AppendRecord.S
theorem G47_ok : EnvOk Tryz.prog G47 := G46_ok.add ent_43 fun ar h r h1 ⟨a0, a1, y, hy, e1, e2, e3, e4⟩ => by
  subst e3 e4; exact (spec_AppendRecord.spec a0 a1 y hy).le e1 e2
attribute [local irreducible] spec_AppendRecord

noncomputable def spec_ExecuteCommand (a0 : Console) (a1 : ByteArray) : Option (Console × ByteArray) :=
  ((spec_l28Own ((a0.1.1, a0.1.2.1, a0.1.2.2.1, a0.1.2.2.2.1, a0.1.2.2.2.2.1, ()), (a0.2.1.1, a0.2.1.2.1, a0.2.1.2.2.1, ()), ())).bind fun y1 => ((spec_l28Good ((a0.1.1, a0.1.2.1, a0.1.2.2.1, a0.1.2.2.2.1, a0.1.2.2.2.2.1, ()), (a0.2.1.1, a0.2.1.2.1, a0.2.1.2.2.1, ()), ())).bind fun y2 => (cond (!y2) ((some (((y1.1.1, y1.1.2.1, y1.1.2.2.1, y1.1.2.2.2.1, y1.1.2.2.2.2.1, ()), (y1.2.1.1, y1.2.1.2.1, y1.2.1.2.2.1, ()), ()), (ByteArray.mk #[110, 111])))) ((spec_l27Good (a1, (ByteArray.mk #[]), ())).bind fun y3 => (cond (!y3) ((some (((y1.1.1, y1.1.2.1, y1.1.2.2.1, y1.1.2.2.2.1, y1.1.2.2.2.2.1, ()), (y1.2.1.1, y1.2.1.2.1, y1.2.1.2.2.1, ()), ()), (ByteArray.mk #[98, 97, 100])))) (cond (decide (a0.2.1.2.2.1 = (60 : Int))) ((some (((y1.1.1, y1.1.2.1, y1.1.2.2.1, y1.1.2.2.2.1, y1.1.2.2.2.2.1, ()), (y1.2.1.1, y1.2.1.2.1, y1.2.1.2.2.1, ()), ()), (ByteArray.mk #[102, 117, 108, 108])))) ((spec_l28Run ((y1.1.1, y1.1.2.1, y1.1.2.2.1, y1.1.2.2.2.1, y1.1.2.2.2.2.1, ()), (y1.2.1.1, y1.2.1.2.1, y1.2.1.2.2.1, ()), ()) a1).bind (Sum.elim (fun y5 => ((spec_l28Own ((y5.1.1.1, y5.2.2, y5.1.1.2.2.1, y5.1.1.2.2.2.1, y5.1.1.2.2.2.2.1, ()), (y5.1.2.1.1, y5.1.2.1.2.1, y5.1.2.1.2.2.1, ()), ())).bind fun y6 => ((cond (decide ((200 : Int) < (y5.2.1.size : Int))) ((some ((ByteArray.mk #[108, 111, 110, 103]), y6.1.1, y6.1.2.2.1, y6.1.2.2.2.1, y6.1.2.2.2.2.1, y6.2.1.1, y6.2.1.2.1, y6.2.1.2.2.1, y6.1.2.1))) ((some (y5.2.1, y6.1.1, y6.1.2.2.1, y6.1.2.2.2.1, y6.1.2.2.2.2.1, y6.2.1.1, y6.2.1.2.1, y6.2.1.2.2.1, y6.1.2.1)))).bind fun z7 => ((spec_AppendRecord (a0.2.1.1, a0.2.1.2.1, a0.2.1.2.2.1, ()) (a1, z7.1, ())).bind fun y8 => (some (((z7.2.1, z7.2.2.2.2.2.2.2.2, z7.2.2.1, z7.2.2.2.1, z7.2.2.2.2.1, ()), (y8.1.1, y8.1.2.1, y8.1.2.2.1, ()), ()), z7.1)))))) (fun y9 => ((spec_l28Own ((y9.1.1.1, y9.1.1.2.1, y9.1.1.2.2.1, y9.1.1.2.2.2.1, y9.1.1.2.2.2.2.1, ()), (y9.1.2.1.1, y9.1.2.1.2.1, y9.1.2.1.2.2.1, ()), ())).bind fun y10 => ((cond (decide ((200 : Int) < (y9.2.1.size : Int))) ((some ((ByteArray.mk #[108, 111, 110, 103]), y10.1.1, y10.1.2.2.1, y10.1.2.2.2.1, y10.1.2.2.2.2.1, y10.2.1.1, y10.2.1.2.1, y10.2.1.2.2.1, y10.1.2.1))) ((some (y9.2.1, y10.1.1, y10.1.2.2.1, y10.1.2.2.2.1, y10.1.2.2.2.2.1, y10.2.1.1, y10.2.1.2.1, y10.2.1.2.2.1, y10.1.2.1)))).bind fun z11 => ((spec_AppendRecord (a0.2.1.1, a0.2.1.2.1, a0.2.1.2.2.1, ()) (a1, z11.1, ())).bind fun y12 => (some (((z11.2.1, z11.2.2.2.2.2.2.2.2, z11.2.2.1, z11.2.2.2.1, z11.2.2.2.2.1, ()), (y12.1.1, y12.1.2.1, y12.1.2.2.1, ()), ()), z11.1))))))))))))))
def spec_ExecuteCommand.res (_ : Console) (_ : ByteArray) (y : Console × ByteArray) : AV := (.tup [(.agg [(.v (.int .i64 y.1.1.1)), (.own 0), (.v (.int .i64 y.1.1.2.2.1)), (.v (.int .i64 y.1.1.2.2.2.1)), (.v (.int .i64 y.1.1.2.2.2.2.1)), (.v (.string y.1.2.1.1)), (.v (.string y.1.2.1.2.1)), (.v (.int .i64 y.1.2.1.2.2.1))]), (.v (.string y.2))])
def spec_ExecuteCommand.out (_ : Console) (_ : ByteArray) (y : Console × ByteArray) : List (Option LB) := [some (.arr 96 ty_Slot y.1.1.2.1)]
def spec_ExecuteCommand.S (ar : List AV) (h : List (Option LB)) (r : AV) (h1 : List (Option LB)) : Prop := ∃ a0 a1 y, spec_ExecuteCommand a0 a1 = some y ∧ leL ar [(.agg [(.v (.int .i64 a0.1.1)), (.tree ty_Slot a0.1.2.1), (.v (.int .i64 a0.1.2.2.1)), (.v (.int .i64 a0.1.2.2.2.1)), (.v (.int .i64 a0.1.2.2.2.2.1)), (.v (.string a0.2.1.1)), (.v (.string a0.2.1.2.1)), (.v (.int .i64 a0.2.1.2.2.1))]), (.v (.string a1))] ∧ leH h [] ∧ r = spec_ExecuteCommand.res a0 a1 y ∧ h1 = spec_ExecuteCommand.out a0 a1 y
theorem spec_ExecuteCommand.call {ar h a0 a1 y} (H : spec_ExecuteCommand a0 a1 = some y) (h0 : leLk ar [(.agg [(.v (.int .i64 a0.1.1)), (.tree ty_Slot a0.1.2.1), (.v (.int .i64 a0.1.2.2.1)), (.v (.int .i64 a0.1.2.2.2.1)), (.v (.int .i64 a0.1.2.2.2.2.1)), (.v (.string a0.2.1.1)), (.v (.string a0.2.1.2.1)), (.v (.int .i64 a0.2.1.2.2.1))]), (.v (.string a1))] (leHk h [])) : spec_ExecuteCommand.S ar h (spec_ExecuteCommand.res a0 a1 y) (spec_ExecuteCommand.out a0 a1 y) := ⟨a0, a1, y, H, (args_ok h0).1, (args_ok h0).2, rfl, rfl⟩
theorem spec_ExecuteCommand.spec (a0 a1 y) (H : spec_ExecuteCommand a0 a1 = some y) : Spec Tryz.prog 13 [(.agg [(.v (.int .i64 a0.1.1)), (.tree ty_Slot a0.1.2.1), (.v (.int .i64 a0.1.2.2.1)), (.v (.int .i64 a0.1.2.2.2.1)), (.v (.int .i64 a0.1.2.2.2.2.1)), (.v (.string a0.2.1.1)), (.v (.string a0.2.1.2.1)), (.v (.int .i64 a0.2.1.2.2.1))]), (.v (.string a1))] [] (spec_ExecuteCommand.res a0 a1 y) (spec_ExecuteCommand.out a0 a1 y) := by
  refine spec_intro (G47_ok.at tok []) (ct := [(12, none), (5, some [1, 2, 4, 6, 16]), (9, some [1, 2, 4, 6, 7, 8])]) Tryz.func13 rfl (by kernel_rfl) (by kernel_rfl) rfl ?_
  repeat' first
    | ((with_reducible refine eqg ?_); exact rfl)
    | ((with_reducible refine KOb.mk ?_); kernel_rfl)
    | ((with_reducible intro h); (repeat first | replace H := grd_k H | replace H := out_step H ‹_›); first | replace H := cond_t h H | replace H := cond_f h H | exact absurd h (by decide) | skip)
    | ((with_reducible refine Ob.mk ?_); first | (with_reducible rfl) | (first | ((repeat (first | (with_reducible exact grd_p H) | replace H := grd_k H | replace H := out_step H ‹_›)); done) | rfl | ((repeat (first | exact grd_p H | (have hp := grd_p H; exact hp) | replace H := grd_k H | replace H := out_step H ‹_› | (replace H := bind_some H; obtain ⟨_, _, H⟩ := H))); done) | (repeat (first | exact grd_p H | replace H := grd_k H | replace H := out_step H ‹_›))))
    | (with_reducible exact True.intro)
    | ((conv => whnf); first
        | (with_reducible refine And.intro ?_ ?_)
        | (with_reducible exact True.intro)
        | (with_reducible refine (?_ : Ob _))
        | ((with_reducible refine CallW.mk ?_); (repeat first | replace H := grd_k H | replace H := out_step H ‹_›); replace H := bind_some H; obtain ⟨y, hy, H⟩ := H; first | ((with_reducible have hz : spec_l28Own _ = some y := hy); clear hz; refine ⟨_, _, spec_l28Own.call hy ?_, rfl, rfl, ?_⟩) | ((with_reducible have hz : spec_l28Good _ = some y := hy); clear hz; refine ⟨_, _, spec_l28Good.call hy ?_, rfl, rfl, ?_⟩) | ((with_reducible have hz : spec_l27Good _ = some y := hy); clear hz; refine ⟨_, _, spec_l27Good.call hy ?_, rfl, rfl, ?_⟩) | ((with_reducible have hz : spec_l28Run _ _ = some y := hy); clear hz; rcases y with y | y <;> refine ⟨_, _, spec_l28Run.call hy ?_, rfl, rfl, ?_⟩) | ((with_reducible have hz : spec_AppendRecord _ _ = some y := hy); clear hz; refine ⟨_, _, spec_AppendRecord.call hy ?_, rfl, rfl, ?_⟩))
        | ((with_reducible refine cutAt (id := 12) ?_); (repeat first | replace H := grd_k H | replace H := out_step H ‹_›); first | (replace H := bind_some H; obtain ⟨z, hz, H⟩ := H; refine CutC.mk (id := 12) ⟨sl [(1, (.v (.string a1))), (2, (.loc 0 0 0)), (4, (.loc 1 0 0)), (6, (.loc 2 0 0)), (8, (.v (.string z.1)))], [some (.box 40 [(.v (.int .i64 a0.1.1)), (.tree ty_Slot a0.1.2.1), (.v (.int .i64 a0.1.2.2.1)), (.v (.int .i64 a0.1.2.2.2.1)), (.v (.int .i64 a0.1.2.2.2.2.1)), (.v (.string a0.2.1.1)), (.v (.string a0.2.1.2.1)), (.v (.int .i64 a0.2.1.2.2.1))]), some (.box 40 [(.v (.int .i64 (0 : Int))), (.v (.slice none 0 0)), (.v (.int .i64 (0 : Int))), (.v (.int .i64 (0 : Int))), (.v (.int .i64 (0 : Int))), (.v (.string (ByteArray.mk #[]))), (.v (.string (ByteArray.mk #[]))), (.v (.int .i64 (0 : Int)))]), some (.box 40 [(.v (.int .i64 z.2.1)), (.own 3), (.v (.int .i64 z.2.2.1)), (.v (.int .i64 z.2.2.2.1)), (.v (.int .i64 z.2.2.2.2.1)), (.v (.string z.2.2.2.2.2.1)), (.v (.string z.2.2.2.2.2.2.1)), (.v (.int .i64 z.2.2.2.2.2.2.2.1))]), some (.arr 96 ty_Slot z.2.2.2.2.2.2.2.2)]⟩ ?_ ?_; (replace H := hz)))
        | ((repeat first | replace H := grd_k H | replace H := out_step H ‹_›); have H := Option.some.inj H; subst H; with_reducible refine sub_auto ?_)
        | ((with_reducible refine fin_mk ?_); (repeat first | replace H := grd_k H | replace H := out_step H ‹_›); have H := Option.some.inj H; subst H))
    | constructor
def G48 : Env := G47.add 13 [] spec_ExecuteCommand.S
theorem G48_ok : EnvOk Tryz.prog G48 := G47_ok.add ent_13 fun ar h r h1 ⟨a0, a1, y, hy, e1, e2, e3, e4⟩ => by
  subst e3 e4; exact (spec_ExecuteCommand.spec a0 a1 y hy).le e1 e2
attribute [local irreducible] spec_ExecuteCommand

end Go.Proofs.YtaobinhdnklojaaGreatDoor
namespace Go.Proofs.YtaobinhdnklojaaGreatDoor
open Go.RowKit
set_option maxHeartbeats 100000000
set_option maxRecDepth 100000
attribute [local irreducible] Ob loopwp Sub Spec Fin Again CallW CutC KOb iter

attribute [local irreducible] spec_l1Num_f

noncomputable def slices_Clone___impl_Slot_impl_Slot_ (a0 : (List Slot)) : Option ((List Slot) × (List Slot)) :=
  (grd (([] : List Slot).length + a0.length ≤ 140737488355328 / 24 ∧ ([] : List Slot).length + a0.length ≤ 140737488355328) ((some ((([] : List Slot) ++ a0), a0))))
attribute [local irreducible] slices_Clone___impl_Slot_impl_Slot_

noncomputable def impl_copyRopeway (a0 : Ropeway) : Option (Ropeway × (List Slot)) :=
  ((slices_Clone___impl_Slot_impl_Slot_ a0.2.1).bind fun y1 => (some ((a0.1, y1.1, a0.2.2.1, a0.2.2.2.1, a0.2.2.2.2.1, ()), y1.2)))
attribute [local irreducible] impl_copyRopeway

noncomputable def impl_within (a0 : Int) (a1 : Int) (a2 : Int) : Option (Bool) :=
  (cond (decide (a1 ≤ a0)) ((some (decide (a0 ≤ a2)))) ((some false)))
def impl_within.res (_ : Int) (_ : Int) (_ : Int) (y : Bool) : AV := (.bl y)
def impl_within.out (_ : Int) (_ : Int) (_ : Int) (_ : Bool) : List (Option LB) := []
def impl_within.S (ar : List AV) (h : List (Option LB)) (r : AV) (h1 : List (Option LB)) : Prop := ∃ a0 a1 a2 y, impl_within a0 a1 a2 = some y ∧ leL ar [(.v (.int .i64 a0)), (.v (.int .i64 a1)), (.v (.int .i64 a2))] ∧ leH h [] ∧ r = impl_within.res a0 a1 a2 y ∧ h1 = impl_within.out a0 a1 a2 y
theorem impl_within.call {ar h a0 a1 a2 y} (H : impl_within a0 a1 a2 = some y) (h0 : leLk ar [(.v (.int .i64 a0)), (.v (.int .i64 a1)), (.v (.int .i64 a2))] (leHk h [])) : impl_within.S ar h (impl_within.res a0 a1 a2 y) (impl_within.out a0 a1 a2 y) := ⟨a0, a1, a2, y, H, (args_ok h0).1, (args_ok h0).2, rfl, rfl⟩
theorem impl_within.spec (a0 a1 a2 y) (H : impl_within a0 a1 a2 = some y) : Spec Tryz.prog 70 [(.v (.int .i64 a0)), (.v (.int .i64 a1)), (.v (.int .i64 a2))] [] (impl_within.res a0 a1 a2 y) (impl_within.out a0 a1 a2 y) := by
  refine spec_intro (G48_ok.at tok []) (ct := []) Tryz.func70 rfl (by kernel_rfl) (by kernel_rfl) rfl ?_
  repeat' first
    | ((with_reducible refine eqg ?_); exact rfl)
    | ((with_reducible refine KOb.mk ?_); kernel_rfl)
    | ((with_reducible intro h); (repeat first | replace H := grd_k H | replace H := out_step H ‹_›); first | replace H := cond_t h H | replace H := cond_f h H | exact absurd h (by decide) | skip)
    | ((with_reducible refine Ob.mk ?_); first | (with_reducible rfl) | (first | ((repeat (first | (with_reducible exact grd_p H) | replace H := grd_k H | replace H := out_step H ‹_›)); done) | rfl | ((repeat (first | exact grd_p H | (have hp := grd_p H; exact hp) | replace H := grd_k H | replace H := out_step H ‹_› | (replace H := bind_some H; obtain ⟨_, _, H⟩ := H))); done) | (repeat (first | exact grd_p H | replace H := grd_k H | replace H := out_step H ‹_›))))
    | (with_reducible exact True.intro)
    | ((conv => whnf); first
        | (with_reducible refine And.intro ?_ ?_)
        | (with_reducible exact True.intro)
        | (with_reducible refine (?_ : Ob _))
        | ((with_reducible refine fin_mk ?_); (repeat first | replace H := grd_k H | replace H := out_step H ‹_›); have H := Option.some.inj H; subst H))
    | constructor
def G51 : Env := G48.add 70 [] impl_within.S
theorem G51_ok : EnvOk Tryz.prog G51 := G48_ok.add ent_70 fun ar h r h1 ⟨a0, a1, a2, y, hy, e1, e2, e3, e4⟩ => by
  subst e3 e4; exact (impl_within.spec a0 a1 a2 y hy).le e1 e2
attribute [local irreducible] impl_within

noncomputable def impl_Ropeway_isStation (a0 : Ropeway) (a1 : Int) : Option (Bool) :=
  (cond (decide (a1 = (0 : Int))) ((some true)) (grd ((2 : Int) ≠ 0) ((some (decide (a1 = (w64 (Int.tdiv (a0.2.1.length : Int) (2 : Int)))))))))
def impl_Ropeway_isStation.res (_ : Ropeway) (_ : Int) (y : Bool) : AV := (.bl y)
def impl_Ropeway_isStation.out (_ : Ropeway) (_ : Int) (_ : Bool) : List (Option LB) := []
def impl_Ropeway_isStation.S (ar : List AV) (h : List (Option LB)) (r : AV) (h1 : List (Option LB)) : Prop := ∃ a0 a1 y, impl_Ropeway_isStation a0 a1 = some y ∧ leL ar [(.agg [(.v (.int .i64 a0.1)), (.tree ty_Slot a0.2.1), (.v (.int .i64 a0.2.2.1)), (.v (.int .i64 a0.2.2.2.1)), (.v (.int .i64 a0.2.2.2.2.1))]), (.v (.int .i64 a1))] ∧ leH h [] ∧ r = impl_Ropeway_isStation.res a0 a1 y ∧ h1 = impl_Ropeway_isStation.out a0 a1 y
theorem impl_Ropeway_isStation.call {ar h a0 a1 y} (H : impl_Ropeway_isStation a0 a1 = some y) (h0 : leLk ar [(.agg [(.v (.int .i64 a0.1)), (.tree ty_Slot a0.2.1), (.v (.int .i64 a0.2.2.1)), (.v (.int .i64 a0.2.2.2.1)), (.v (.int .i64 a0.2.2.2.2.1))]), (.v (.int .i64 a1))] (leHk h [])) : impl_Ropeway_isStation.S ar h (impl_Ropeway_isStation.res a0 a1 y) (impl_Ropeway_isStation.out a0 a1 y) := ⟨a0, a1, y, H, (args_ok h0).1, (args_ok h0).2, rfl, rfl⟩
theorem impl_Ropeway_isStation.spec (a0 a1 y) (H : impl_Ropeway_isStation a0 a1 = some y) : Spec Tryz.prog 124 [(.agg [(.v (.int .i64 a0.1)), (.tree ty_Slot a0.2.1), (.v (.int .i64 a0.2.2.1)), (.v (.int .i64 a0.2.2.2.1)), (.v (.int .i64 a0.2.2.2.2.1))]), (.v (.int .i64 a1))] [] (impl_Ropeway_isStation.res a0 a1 y) (impl_Ropeway_isStation.out a0 a1 y) := by
  refine spec_intro (G51_ok.at tok []) (ct := []) Tryz.func124 rfl (by kernel_rfl) (by kernel_rfl) rfl ?_
  repeat' first
    | ((with_reducible refine eqg ?_); exact rfl)
    | ((with_reducible refine KOb.mk ?_); kernel_rfl)
    | ((with_reducible intro h); (repeat first | replace H := grd_k H | replace H := out_step H ‹_›); first | replace H := cond_t h H | replace H := cond_f h H | exact absurd h (by decide) | skip)
    | ((with_reducible refine Ob.mk ?_); first | (with_reducible rfl) | (first | ((repeat (first | (with_reducible exact grd_p H) | replace H := grd_k H | replace H := out_step H ‹_›)); done) | rfl | ((repeat (first | exact grd_p H | (have hp := grd_p H; exact hp) | replace H := grd_k H | replace H := out_step H ‹_› | (replace H := bind_some H; obtain ⟨_, _, H⟩ := H))); done) | (repeat (first | exact grd_p H | replace H := grd_k H | replace H := out_step H ‹_›))))
    | (with_reducible exact True.intro)
    | ((conv => whnf); first
        | (with_reducible refine And.intro ?_ ?_)
        | (with_reducible exact True.intro)
        | (with_reducible refine (?_ : Ob _))
        | ((with_reducible refine fin_mk ?_); (repeat first | replace H := grd_k H | replace H := out_step H ‹_›); have H := Option.some.inj H; subst H))
    | constructor
def G52 : Env := G51.add 124 [] impl_Ropeway_isStation.S
theorem G52_ok : EnvOk Tryz.prog G52 := G51_ok.add ent_124 fun ar h r h1 ⟨a0, a1, y, hy, e1, e2, e3, e4⟩ => by
  subst e3 e4; exact (impl_Ropeway_isStation.spec a0 a1 y hy).le e1 e2
attribute [local irreducible] impl_Ropeway_isStation

noncomputable def impl_IsRopeway_1_i1 (a0 : Slot) (a100 : Int) (_ : Bool) (_ : Int) : Option (Bool) :=
  (some (decide (a0.1 = a100)))
def impl_IsRopeway_1_i1.res (_ : Slot) (_ : Int) (_ : Bool) (_ : Int) (y : Bool) : AV := (.bl y)
def impl_IsRopeway_1_i1.out (_ : Slot) (_ : Int) (_ : Bool) (_ : Int) (_ : Bool) : List (Option LB) := []
def impl_IsRopeway_1_i1.S (ar : List AV) (h : List (Option LB)) (r : AV) (h1 : List (Option LB)) : Prop := ∃ a0 a100 a101 a102 y, impl_IsRopeway_1_i1 a0 a100 a101 a102 = some y ∧ leL ar [(.agg [(.v (.int .i64 a0.1)), (.bl a0.2.1), (.v (.int .i64 a0.2.2.1))]), (.bptr [(.v (.int .i64 a100)), (.bl a101), (.v (.int .i64 a102))] 0)] ∧ leH h [] ∧ r = impl_IsRopeway_1_i1.res a0 a100 a101 a102 y ∧ h1 = impl_IsRopeway_1_i1.out a0 a100 a101 a102 y
theorem impl_IsRopeway_1_i1.call {ar h a0 a100 a101 a102 y} (H : impl_IsRopeway_1_i1 a0 a100 a101 a102 = some y) (h0 : leLk ar [(.agg [(.v (.int .i64 a0.1)), (.bl a0.2.1), (.v (.int .i64 a0.2.2.1))]), (.bptr [(.v (.int .i64 a100)), (.bl a101), (.v (.int .i64 a102))] 0)] (leHk h [])) : impl_IsRopeway_1_i1.S ar h (impl_IsRopeway_1_i1.res a0 a100 a101 a102 y) (impl_IsRopeway_1_i1.out a0 a100 a101 a102 y) := ⟨a0, a100, a101, a102, y, H, (args_ok h0).1, (args_ok h0).2, rfl, rfl⟩
theorem impl_IsRopeway_1_i1.spec (a0 a100 a101 a102 y) (H : impl_IsRopeway_1_i1 a0 a100 a101 a102 = some y) : Spec Tryz.prog 126 [(.agg [(.v (.int .i64 a0.1)), (.bl a0.2.1), (.v (.int .i64 a0.2.2.1))]), (.bptr [(.v (.int .i64 a100)), (.bl a101), (.v (.int .i64 a102))] 0)] [] (impl_IsRopeway_1_i1.res a0 a100 a101 a102 y) (impl_IsRopeway_1_i1.out a0 a100 a101 a102 y) := by
  refine spec_intro (G52_ok.at tok []) (ct := []) Tryz.func126 rfl (by kernel_rfl) (by kernel_rfl) rfl ?_
  repeat' first
    | ((with_reducible refine eqg ?_); exact rfl)
    | ((with_reducible refine KOb.mk ?_); kernel_rfl)
    | ((with_reducible intro h); (repeat first | replace H := grd_k H | replace H := out_step H ‹_›); first | replace H := cond_t h H | replace H := cond_f h H | exact absurd h (by decide) | skip)
    | ((with_reducible refine Ob.mk ?_); first | (with_reducible rfl) | (first | ((repeat (first | (with_reducible exact grd_p H) | replace H := grd_k H | replace H := out_step H ‹_›)); done) | rfl | ((repeat (first | exact grd_p H | (have hp := grd_p H; exact hp) | replace H := grd_k H | replace H := out_step H ‹_› | (replace H := bind_some H; obtain ⟨_, _, H⟩ := H))); done) | (repeat (first | exact grd_p H | replace H := grd_k H | replace H := out_step H ‹_›))))
    | (with_reducible exact True.intro)
    | ((conv => whnf); first
        | (with_reducible refine And.intro ?_ ?_)
        | (with_reducible exact True.intro)
        | (with_reducible refine (?_ : Ob _))
        | ((with_reducible refine fin_mk ?_); (repeat first | replace H := grd_k H | replace H := out_step H ‹_›); have H := Option.some.inj H; subst H))
    | constructor
def G53 : Env := G52.add 126 [] impl_IsRopeway_1_i1.S
theorem G53_ok : EnvOk Tryz.prog G53 := G52_ok.add ent_126 fun ar h r h1 ⟨a0, a100, a101, a102, y, hy, e1, e2, e3, e4⟩ => by
  subst e3 e4; exact (impl_IsRopeway_1_i1.spec a0 a100 a101 a102 y hy).le e1 e2
attribute [local irreducible] impl_IsRopeway_1_i1

noncomputable def slices_IndexFunc___impl_Slot_impl_Slot__i1_loop1 (a0 : (List Slot)) (a100 : Int) (a101 : Bool) (a102 : Int) (v4 : Int) : Option (Lp (Int) ((Int) ⊕ (Unit))) :=
  (cond (decide (v4 < (a0.length : Int))) (grd (0 ≤ v4 ∧ v4 < (a0.length : Int)) ((impl_IsRopeway_1_i1 ((a0.getD v4.toNat d_Slot).1, (a0.getD v4.toNat d_Slot).2.1, (a0.getD v4.toNat d_Slot).2.2.1, ()) a100 a101 a102).bind fun y5 => (cond y5 ((some (.out (Sum.inl v4)))) (some (.go (w64 (v4 + (1 : Int)))))))) ((some (.out (Sum.inr ())))))
noncomputable def slices_IndexFunc___impl_Slot_impl_Slot__i1 (a0 : (List Slot)) (a100 : Int) (a101 : Bool) (a102 : Int) : Option (Int) :=
  ((iter (fun s => slices_IndexFunc___impl_Slot_impl_Slot__i1_loop1 a0 a100 a101 a102 s) (0 : Int)).bind (Sum.elim (fun r7 => (some r7)) (fun _ => (some ((-1) : Int)))))
def slices_IndexFunc___impl_Slot_impl_Slot__i1.res (_ : (List Slot)) (_ : Int) (_ : Bool) (_ : Int) (y : Int) : AV := (.v (.int .i64 y))
def slices_IndexFunc___impl_Slot_impl_Slot__i1.out (_ : (List Slot)) (_ : Int) (_ : Bool) (_ : Int) (_ : Int) : List (Option LB) := []
def slices_IndexFunc___impl_Slot_impl_Slot__i1.S (ar : List AV) (h : List (Option LB)) (r : AV) (h1 : List (Option LB)) : Prop := ∃ a0 a100 a101 a102 y, slices_IndexFunc___impl_Slot_impl_Slot__i1 a0 a100 a101 a102 = some y ∧ leL ar [(.tree ty_Slot a0), (.fn 126 [(.bptr [(.v (.int .i64 a100)), (.bl a101), (.v (.int .i64 a102))] 0)])] ∧ leH h [] ∧ r = slices_IndexFunc___impl_Slot_impl_Slot__i1.res a0 a100 a101 a102 y ∧ h1 = slices_IndexFunc___impl_Slot_impl_Slot__i1.out a0 a100 a101 a102 y
theorem slices_IndexFunc___impl_Slot_impl_Slot__i1.call {ar h a0 a100 a101 a102 y} (H : slices_IndexFunc___impl_Slot_impl_Slot__i1 a0 a100 a101 a102 = some y) (h0 : leLk ar [(.tree ty_Slot a0), (.fn 126 [(.bptr [(.v (.int .i64 a100)), (.bl a101), (.v (.int .i64 a102))] 0)])] (leHk h [])) : slices_IndexFunc___impl_Slot_impl_Slot__i1.S ar h (slices_IndexFunc___impl_Slot_impl_Slot__i1.res a0 a100 a101 a102 y) (slices_IndexFunc___impl_Slot_impl_Slot__i1.out a0 a100 a101 a102 y) := ⟨a0, a100, a101, a102, y, H, (args_ok h0).1, (args_ok h0).2, rfl, rfl⟩
theorem slices_IndexFunc___impl_Slot_impl_Slot__i1.spec (a0 a100 a101 a102 y) (H : slices_IndexFunc___impl_Slot_impl_Slot__i1 a0 a100 a101 a102 = some y) : Spec Tryz.prog 156 [(.tree ty_Slot a0), (.fn 126 [(.bptr [(.v (.int .i64 a100)), (.bl a101), (.v (.int .i64 a102))] 0)])] [] (slices_IndexFunc___impl_Slot_impl_Slot__i1.res a0 a100 a101 a102 y) (slices_IndexFunc___impl_Slot_impl_Slot__i1.out a0 a100 a101 a102 y) := by
  refine spec_intro (G53_ok.at tok []) (ct := []) Tryz.func156 rfl (by kernel_rfl) (by kernel_rfl) rfl ?_
  repeat' first
    | ((with_reducible refine eqg ?_); exact rfl)
    | ((with_reducible refine KOb.mk ?_); kernel_rfl)
    | ((with_reducible intro h); (repeat first | replace H := grd_k H | replace H := out_step H ‹_›); first | replace H := cond_t h H | replace H := cond_f h H | exact absurd h (by decide) | skip)
    | ((with_reducible refine Ob.mk ?_); first | (with_reducible rfl) | (first | ((repeat (first | (with_reducible exact grd_p H) | replace H := grd_k H | replace H := out_step H ‹_›)); done) | rfl | ((repeat (first | exact grd_p H | (have hp := grd_p H; exact hp) | replace H := grd_k H | replace H := out_step H ‹_› | (replace H := bind_some H; obtain ⟨_, _, H⟩ := H))); done) | (repeat (first | exact grd_p H | replace H := grd_k H | replace H := out_step H ‹_›))))
    | (with_reducible exact True.intro)
    | ((conv => whnf); first
        | (with_reducible refine And.intro ?_ ?_)
        | (with_reducible exact True.intro)
        | (with_reducible refine (?_ : Ob _))
        | ((with_reducible refine CallW.mk ?_); (repeat first | replace H := grd_k H | replace H := out_step H ‹_›); replace H := bind_some H; obtain ⟨y, hy, H⟩ := H; first | ((with_reducible have hz : impl_IsRopeway_1_i1 _ _ _ _ = some y := hy); clear hz; refine ⟨_, _, impl_IsRopeway_1_i1.call hy ?_, rfl, rfl, ?_⟩))
        | ((repeat first | replace H := grd_k H | replace H := out_step H ‹_›); refine loop_iter (G53_ok.at tok []) (ct := []) (F := (fun s1 : Int => ⟨sl [(0, (.tree ty_Slot a0)), (1, (.fn 126 [(.bptr [(.v (.int .i64 a100)), (.bl a101), (.v (.int .i64 a102))] 0)])), (7, (.v (.int .i64 (a0.length : Int)))), (8, (.v (.int .i64 s1)))], []⟩)) (step := (fun s : Int => slices_IndexFunc___impl_Slot_impl_Slot__i1_loop1 _ _ _ _ s)) _ H (by kernel_rfl) (sub_auto ?_) ?_; rotate_left; (intro s1 r v hr H); rotate_right)
        | ((repeat first | replace H := grd_k H | replace H := out_step H ‹_›); refine again_step H (by assumption) (sub_auto ?_))
        | ((with_reducible refine fin_mk ?_); (repeat first | replace H := grd_k H | replace H := out_step H ‹_›); have H := Option.some.inj H; subst H))
    | constructor
  all_goals exact viewz _ _
def G54 : Env := G53.add 156 [] slices_IndexFunc___impl_Slot_impl_Slot__i1.S
theorem G54_ok : EnvOk Tryz.prog G54 := G53_ok.add ent_156 fun ar h r h1 ⟨a0, a100, a101, a102, y, hy, e1, e2, e3, e4⟩ => by
  subst e3 e4; exact (slices_IndexFunc___impl_Slot_impl_Slot__i1.spec a0 a100 a101 a102 y hy).le e1 e2
attribute [local irreducible] slices_IndexFunc___impl_Slot_impl_Slot__i1

end Go.Proofs.YtaobinhdnklojaaGreatDoor
namespace Go.Proofs.YtaobinhdnklojaaGreatDoor
open Go.RowKit
set_option maxHeartbeats 100000000
set_option maxRecDepth 100000
attribute [local irreducible] Ob loopwp Sub Spec Fin Again CallW CutC KOb iter

attribute [local irreducible] spec_l1Num_f impl_within impl_Ropeway_isStation slices_IndexFunc___impl_Slot_impl_Slot__i1

noncomputable def slices_ContainsFunc___impl_Slot_impl_Slot__i1 (a0 : (List Slot)) (a100 : Int) (a101 : Bool) (a102 : Int) : Option (Bool) :=
  ((slices_IndexFunc___impl_Slot_impl_Slot__i1 a0 a100 a101 a102).bind fun y1 => (some (decide ((0 : Int) ≤ y1))))
def slices_ContainsFunc___impl_Slot_impl_Slot__i1.res (_ : (List Slot)) (_ : Int) (_ : Bool) (_ : Int) (y : Bool) : AV := (.bl y)
def slices_ContainsFunc___impl_Slot_impl_Slot__i1.out (_ : (List Slot)) (_ : Int) (_ : Bool) (_ : Int) (_ : Bool) : List (Option LB) := []
def slices_ContainsFunc___impl_Slot_impl_Slot__i1.S (ar : List AV) (h : List (Option LB)) (r : AV) (h1 : List (Option LB)) : Prop := ∃ a0 a100 a101 a102 y, slices_ContainsFunc___impl_Slot_impl_Slot__i1 a0 a100 a101 a102 = some y ∧ leL ar [(.tree ty_Slot a0), (.fn 126 [(.bptr [(.v (.int .i64 a100)), (.bl a101), (.v (.int .i64 a102))] 0)])] ∧ leH h [] ∧ r = slices_ContainsFunc___impl_Slot_impl_Slot__i1.res a0 a100 a101 a102 y ∧ h1 = slices_ContainsFunc___impl_Slot_impl_Slot__i1.out a0 a100 a101 a102 y
theorem slices_ContainsFunc___impl_Slot_impl_Slot__i1.call {ar h a0 a100 a101 a102 y} (H : slices_ContainsFunc___impl_Slot_impl_Slot__i1 a0 a100 a101 a102 = some y) (h0 : leLk ar [(.tree ty_Slot a0), (.fn 126 [(.bptr [(.v (.int .i64 a100)), (.bl a101), (.v (.int .i64 a102))] 0)])] (leHk h [])) : slices_ContainsFunc___impl_Slot_impl_Slot__i1.S ar h (slices_ContainsFunc___impl_Slot_impl_Slot__i1.res a0 a100 a101 a102 y) (slices_ContainsFunc___impl_Slot_impl_Slot__i1.out a0 a100 a101 a102 y) := ⟨a0, a100, a101, a102, y, H, (args_ok h0).1, (args_ok h0).2, rfl, rfl⟩
theorem slices_ContainsFunc___impl_Slot_impl_Slot__i1.spec (a0 a100 a101 a102 y) (H : slices_ContainsFunc___impl_Slot_impl_Slot__i1 a0 a100 a101 a102 = some y) : Spec Tryz.prog 125 [(.tree ty_Slot a0), (.fn 126 [(.bptr [(.v (.int .i64 a100)), (.bl a101), (.v (.int .i64 a102))] 0)])] [] (slices_ContainsFunc___impl_Slot_impl_Slot__i1.res a0 a100 a101 a102 y) (slices_ContainsFunc___impl_Slot_impl_Slot__i1.out a0 a100 a101 a102 y) := by
  refine spec_intro (G54_ok.at tok []) (ct := []) Tryz.func125 rfl (by kernel_rfl) (by kernel_rfl) rfl ?_
  repeat' first
    | ((with_reducible refine eqg ?_); exact rfl)
    | ((with_reducible refine KOb.mk ?_); kernel_rfl)
    | ((with_reducible intro h); (repeat first | replace H := grd_k H | replace H := out_step H ‹_›); first | replace H := cond_t h H | replace H := cond_f h H | exact absurd h (by decide) | skip)
    | ((with_reducible refine Ob.mk ?_); first | (with_reducible rfl) | (first | ((repeat (first | (with_reducible exact grd_p H) | replace H := grd_k H | replace H := out_step H ‹_›)); done) | rfl | ((repeat (first | exact grd_p H | (have hp := grd_p H; exact hp) | replace H := grd_k H | replace H := out_step H ‹_› | (replace H := bind_some H; obtain ⟨_, _, H⟩ := H))); done) | (repeat (first | exact grd_p H | replace H := grd_k H | replace H := out_step H ‹_›))))
    | (with_reducible exact True.intro)
    | ((conv => whnf); first
        | (with_reducible refine And.intro ?_ ?_)
        | (with_reducible exact True.intro)
        | (with_reducible refine (?_ : Ob _))
        | ((with_reducible refine CallW.mk ?_); (repeat first | replace H := grd_k H | replace H := out_step H ‹_›); replace H := bind_some H; obtain ⟨y, hy, H⟩ := H; first | ((with_reducible have hz : slices_IndexFunc___impl_Slot_impl_Slot__i1 _ _ _ _ = some y := hy); clear hz; refine ⟨_, _, slices_IndexFunc___impl_Slot_impl_Slot__i1.call hy ?_, rfl, rfl, ?_⟩))
        | ((with_reducible refine fin_mk ?_); (repeat first | replace H := grd_k H | replace H := out_step H ‹_›); have H := Option.some.inj H; subst H))
    | constructor
  all_goals exact viewz _ _
def G55 : Env := G54.add 125 [] slices_ContainsFunc___impl_Slot_impl_Slot__i1.S
theorem G55_ok : EnvOk Tryz.prog G55 := G54_ok.add ent_125 fun ar h r h1 ⟨a0, a100, a101, a102, y, hy, e1, e2, e3, e4⟩ => by
  subst e3 e4; exact (slices_ContainsFunc___impl_Slot_impl_Slot__i1.spec a0 a100 a101 a102 y hy).le e1 e2
attribute [local irreducible] slices_ContainsFunc___impl_Slot_impl_Slot__i1

noncomputable def impl_IsRopeway_loop1 (a0 : Ropeway) (v22 : Int) : Option (Lp (Int) ((Unit) ⊕ (Unit))) :=
  (cond (decide (v22 < (a0.2.1.length : Int))) (grd (0 ≤ v22 ∧ v22 < (a0.2.1.length : Int)) ((impl_within ((a0.2.1.getD v22.toNat d_Slot).1) (0 : Int) (20 : Int)).bind fun y23 => (cond (!y23) ((some (.out (Sum.inl ())))) ((impl_within ((a0.2.1.getD v22.toNat d_Slot).2.2.1) (0 : Int) (8 : Int)).bind fun y24 => (cond (!y24) ((some (.out (Sum.inl ())))) (cond (decide (((a0.2.1.getD v22.toNat d_Slot).1) = (0 : Int))) (cond ((a0.2.1.getD v22.toNat d_Slot).2.1) ((some (.out (Sum.inl ())))) (cond (decide ((0 : Int) < ((a0.2.1.getD v22.toNat d_Slot).2.2.1))) ((some (.out (Sum.inl ())))) (some (.go (w64 (v22 + (1 : Int))))))) (cond ((a0.2.1.getD v22.toNat d_Slot).2.1) ((impl_Ropeway_isStation (a0.1, a0.2.1, a0.2.2.1, a0.2.2.2.1, a0.2.2.2.2.1, ()) v22).bind fun y25 => (cond (!y25) ((some (.out (Sum.inl ())))) (grd ((a0.2.1.length : Int) ≠ 0) (grd (0 ≤ (Int.tmod (w64 (v22 + (1 : Int))) (a0.2.1.length : Int)) ∧ (Int.tmod (w64 (v22 + (1 : Int))) (a0.2.1.length : Int)) < (a0.2.1.length : Int)) (cond (decide ((0 : Int) < ((a0.2.1.getD ((Int.tmod (w64 (v22 + (1 : Int))) (a0.2.1.length : Int)).toNat) d_Slot).1))) ((some (.out (Sum.inl ())))) (grd (0 ≤ (0 : Int) ∧ (0 : Int) ≤ v22 ∧ v22 ≤ (a0.2.1.length : Int)) ((slices_ContainsFunc___impl_Slot_impl_Slot__i1 (lsub a0.2.1 (0 : Int) v22) ((a0.2.1.getD v22.toNat d_Slot).1) ((a0.2.1.getD v22.toNat d_Slot).2.1) ((a0.2.1.getD v22.toNat d_Slot).2.2.1)).bind fun y26 => (cond y26 ((some (.out (Sum.inl ())))) (some (.go (w64 (v22 + (1 : Int))))))))))))) (grd ((a0.2.1.length : Int) ≠ 0) (grd (0 ≤ (Int.tmod (w64 (v22 + (1 : Int))) (a0.2.1.length : Int)) ∧ (Int.tmod (w64 (v22 + (1 : Int))) (a0.2.1.length : Int)) < (a0.2.1.length : Int)) (cond (decide ((0 : Int) < ((a0.2.1.getD ((Int.tmod (w64 (v22 + (1 : Int))) (a0.2.1.length : Int)).toNat) d_Slot).1))) ((some (.out (Sum.inl ())))) (grd (0 ≤ (0 : Int) ∧ (0 : Int) ≤ v22 ∧ v22 ≤ (a0.2.1.length : Int)) ((slices_ContainsFunc___impl_Slot_impl_Slot__i1 (lsub a0.2.1 (0 : Int) v22) ((a0.2.1.getD v22.toNat d_Slot).1) ((a0.2.1.getD v22.toNat d_Slot).2.1) ((a0.2.1.getD v22.toNat d_Slot).2.2.1)).bind fun y27 => (cond y27 ((some (.out (Sum.inl ())))) (some (.go (w64 (v22 + (1 : Int)))))))))))))))))) ((some (.out (Sum.inr ())))))
noncomputable def impl_IsRopeway (a0 : Ropeway) : Option (Bool) :=
  ((impl_within a0.1 (0 : Int) (3 : Int)).bind fun y1 => (cond (!y1) ((some false)) ((impl_within (a0.2.1.length : Int) (4 : Int) (10 : Int)).bind fun y2 => (cond (!y2) ((some false)) (grd ((2 : Int) ≠ 0) (cond (!decide ((Int.tmod (a0.2.1.length : Int) (2 : Int)) = (0 : Int))) ((some false)) ((impl_within a0.2.2.1 (0 : Int) (500 : Int)).bind fun y3 => (cond (!y3) ((some false)) ((impl_within a0.2.2.2.1 (0 : Int) (500 : Int)).bind fun y4 => (cond (!y4) ((some false)) ((impl_within a0.2.2.2.2.1 (0 : Int) (500 : Int)).bind fun y5 => (cond (!y5) ((some false)) ((iter (fun s => impl_IsRopeway_loop1 a0 s) (0 : Int)).bind (Sum.elim (fun _ => (some false)) (fun _ => (some true))))))))))))))))
def impl_IsRopeway.res (_ : Ropeway) (y : Bool) : AV := (.bl y)
def impl_IsRopeway.out (_ : Ropeway) (_ : Bool) : List (Option LB) := []
def impl_IsRopeway.S (ar : List AV) (h : List (Option LB)) (r : AV) (h1 : List (Option LB)) : Prop := ∃ a0 y, impl_IsRopeway a0 = some y ∧ leL ar [(.agg [(.v (.int .i64 a0.1)), (.tree ty_Slot a0.2.1), (.v (.int .i64 a0.2.2.1)), (.v (.int .i64 a0.2.2.2.1)), (.v (.int .i64 a0.2.2.2.2.1))])] ∧ leH h [] ∧ r = impl_IsRopeway.res a0 y ∧ h1 = impl_IsRopeway.out a0 y
theorem impl_IsRopeway.call {ar h a0 y} (H : impl_IsRopeway a0 = some y) (h0 : leLk ar [(.agg [(.v (.int .i64 a0.1)), (.tree ty_Slot a0.2.1), (.v (.int .i64 a0.2.2.1)), (.v (.int .i64 a0.2.2.2.1)), (.v (.int .i64 a0.2.2.2.2.1))])] (leHk h [])) : impl_IsRopeway.S ar h (impl_IsRopeway.res a0 y) (impl_IsRopeway.out a0 y) := ⟨a0, y, H, (args_ok h0).1, (args_ok h0).2, rfl, rfl⟩
theorem impl_IsRopeway.spec (a0 y) (H : impl_IsRopeway a0 = some y) : Spec Tryz.prog 85 [(.agg [(.v (.int .i64 a0.1)), (.tree ty_Slot a0.2.1), (.v (.int .i64 a0.2.2.1)), (.v (.int .i64 a0.2.2.2.1)), (.v (.int .i64 a0.2.2.2.2.1))])] [] (impl_IsRopeway.res a0 y) (impl_IsRopeway.out a0 y) := by
  refine spec_intro (G55_ok.at tok []) (ct := [(3, some [1, 3, 40, 54, 55, 56, 57, 65, 66, 67, 72, 73, 74, 75, 78, 79, 80, 81, 82, 83, 84, 85, 86, 87, 90, 91, 92, 93, 94, 95]), (8, some [1, 3, 4, 5, 42, 43, 44, 54, 55, 56, 57, 58, 65, 66, 67, 72, 73, 74, 75, 78, 79, 80, 81, 82, 83, 84, 85, 86, 87, 90, 91, 92, 93, 94, 95]), (13, some [1, 3, 42, 43, 44, 54, 55, 56, 57, 65, 66, 67, 72, 73, 74, 75, 78, 79, 80, 81, 82, 83, 84, 85, 86, 87, 90, 91, 92, 93, 94, 95, 96])]) Tryz.func85 rfl (by kernel_rfl) (by kernel_rfl) rfl ?_
  repeat' first
    | ((with_reducible refine eqg ?_); exact rfl)
    | ((with_reducible refine KOb.mk ?_); kernel_rfl)
    | ((with_reducible intro h); (repeat first | replace H := grd_k H | replace H := out_step H ‹_›); first | replace H := cond_t h H | replace H := cond_f h H | exact absurd h (by decide) | skip)
    | ((with_reducible refine Ob.mk ?_); first | (with_reducible rfl) | (first | ((repeat (first | (with_reducible exact grd_p H) | replace H := grd_k H | replace H := out_step H ‹_›)); done) | rfl | ((repeat (first | exact grd_p H | (have hp := grd_p H; exact hp) | replace H := grd_k H | replace H := out_step H ‹_› | (replace H := bind_some H; obtain ⟨_, _, H⟩ := H))); done) | (repeat (first | exact grd_p H | replace H := grd_k H | replace H := out_step H ‹_›))))
    | (with_reducible exact True.intro)
    | ((conv => whnf); first
        | (with_reducible refine And.intro ?_ ?_)
        | (with_reducible exact True.intro)
        | (with_reducible refine (?_ : Ob _))
        | ((with_reducible refine CallW.mk ?_); (repeat first | replace H := grd_k H | replace H := out_step H ‹_›); replace H := bind_some H; obtain ⟨y, hy, H⟩ := H; first | ((with_reducible have hz : impl_within _ _ _ = some y := hy); clear hz; refine ⟨_, _, impl_within.call hy ?_, rfl, rfl, ?_⟩) | ((with_reducible have hz : impl_Ropeway_isStation _ _ = some y := hy); clear hz; refine ⟨_, _, impl_Ropeway_isStation.call hy ?_, rfl, rfl, ?_⟩) | ((with_reducible have hz : slices_ContainsFunc___impl_Slot_impl_Slot__i1 _ _ _ _ = some y := hy); clear hz; refine ⟨_, _, slices_ContainsFunc___impl_Slot_impl_Slot__i1.call hy ?_, rfl, rfl, ?_⟩))
        | ((repeat first | replace H := grd_k H | replace H := out_step H ‹_›); refine loop_iter (G55_ok.at tok []) (ct := [(3, some [1, 3, 40, 54, 55, 56, 57, 65, 66, 67, 72, 73, 74, 75, 78, 79, 80, 81, 82, 83, 84, 85, 86, 87, 90, 91, 92, 93, 94, 95]), (8, some [1, 3, 4, 5, 42, 43, 44, 54, 55, 56, 57, 58, 65, 66, 67, 72, 73, 74, 75, 78, 79, 80, 81, 82, 83, 84, 85, 86, 87, 90, 91, 92, 93, 94, 95]), (13, some [1, 3, 42, 43, 44, 54, 55, 56, 57, 65, 66, 67, 72, 73, 74, 75, 78, 79, 80, 81, 82, 83, 84, 85, 86, 87, 90, 91, 92, 93, 94, 95, 96])]) (F := (fun s1 : Int => ⟨sl [(1, (.loc 0 0 0)), (3, (.v (.int .i64 (a0.2.1.length : Int)))), (42, (.tree ty_Slot a0.2.1)), (43, (.v (.int .i64 (a0.2.1.length : Int)))), (44, (.v (.int .i64 s1)))], [some (.box 38 [(.v (.int .i64 a0.1)), (.tree ty_Slot a0.2.1), (.v (.int .i64 a0.2.2.1)), (.v (.int .i64 a0.2.2.2.1)), (.v (.int .i64 a0.2.2.2.2.1))])]⟩)) (step := (fun s : Int => impl_IsRopeway_loop1 _ s)) _ H (by kernel_rfl) (sub_auto ?_) ?_; rotate_left; (intro s1 r v hr H); rotate_right)
        | ((repeat first | replace H := grd_k H | replace H := out_step H ‹_›); refine again_step H (by assumption) (sub_auto ?_))
        | ((with_reducible refine fin_mk ?_); (repeat first | replace H := grd_k H | replace H := out_step H ‹_›); have H := Option.some.inj H; subst H))
    | constructor
def G56 : Env := G55.add 85 [] impl_IsRopeway.S
theorem G56_ok : EnvOk Tryz.prog G56 := G55_ok.add ent_85 fun ar h r h1 ⟨a0, y, hy, e1, e2, e3, e4⟩ => by
  subst e3 e4; exact (impl_IsRopeway.spec a0 y hy).le e1 e2
attribute [local irreducible] impl_IsRopeway

noncomputable def strings_Cut (a0 : ByteArray) (a1 : ByteArray) : Option (ByteArray × ByteArray × Bool) :=
  (grd (a0.size < 4294967281) ((some ((cutA a0 a1), (cutB a0 a1), (cutF a0 a1)))))
def strings_Cut.res (_ : ByteArray) (_ : ByteArray) (y : ByteArray × ByteArray × Bool) : AV := (.tup [(.v (.string y.1)), (.v (.string y.2.1)), (.bl y.2.2)])
def strings_Cut.out (_ : ByteArray) (_ : ByteArray) (_ : ByteArray × ByteArray × Bool) : List (Option LB) := []
def strings_Cut.S (ar : List AV) (h : List (Option LB)) (r : AV) (h1 : List (Option LB)) : Prop := ∃ a0 a1 y, strings_Cut a0 a1 = some y ∧ leL ar [(.v (.string a0)), (.v (.string a1))] ∧ leH h [] ∧ r = strings_Cut.res a0 a1 y ∧ h1 = strings_Cut.out a0 a1 y
theorem strings_Cut.call {ar h a0 a1 y} (H : strings_Cut a0 a1 = some y) (h0 : leLk ar [(.v (.string a0)), (.v (.string a1))] (leHk h [])) : strings_Cut.S ar h (strings_Cut.res a0 a1 y) (strings_Cut.out a0 a1 y) := ⟨a0, a1, y, H, (args_ok h0).1, (args_ok h0).2, rfl, rfl⟩
theorem strings_Cut.spec (a0 a1 y) (H : strings_Cut a0 a1 = some y) : Spec Tryz.prog 110 [(.v (.string a0)), (.v (.string a1))] [] (strings_Cut.res a0 a1 y) (strings_Cut.out a0 a1 y) := by
  have hg := grd_p H
  have H := Option.some.inj (grd_k H)
  subst H
  exact ext_strings_Cut a0 a1 hg
def G57 : Env := G56.add 110 [] strings_Cut.S
theorem G57_ok : EnvOk Tryz.prog G57 := G56_ok.add ent_110 fun ar h r h1 ⟨a0, a1, y, hy, e1, e2, e3, e4⟩ => by
  subst e3 e4; exact (strings_Cut.spec a0 a1 y hy).le e1 e2
attribute [local irreducible] strings_Cut

noncomputable def strings_Contains (a0 : ByteArray) (a1 : ByteArray) : Option (Bool) :=
  (grd (a0.size < 4294967281) ((some (Lib.contains a0.data.toList a1.data.toList))))
def strings_Contains.res (_ : ByteArray) (_ : ByteArray) (y : Bool) : AV := (.bl y)
def strings_Contains.out (_ : ByteArray) (_ : ByteArray) (_ : Bool) : List (Option LB) := []
def strings_Contains.S (ar : List AV) (h : List (Option LB)) (r : AV) (h1 : List (Option LB)) : Prop := ∃ a0 a1 y, strings_Contains a0 a1 = some y ∧ leL ar [(.v (.string a0)), (.v (.string a1))] ∧ leH h [] ∧ r = strings_Contains.res a0 a1 y ∧ h1 = strings_Contains.out a0 a1 y
theorem strings_Contains.call {ar h a0 a1 y} (H : strings_Contains a0 a1 = some y) (h0 : leLk ar [(.v (.string a0)), (.v (.string a1))] (leHk h [])) : strings_Contains.S ar h (strings_Contains.res a0 a1 y) (strings_Contains.out a0 a1 y) := ⟨a0, a1, y, H, (args_ok h0).1, (args_ok h0).2, rfl, rfl⟩
theorem strings_Contains.spec (a0 a1 y) (H : strings_Contains a0 a1 = some y) : Spec Tryz.prog 164 [(.v (.string a0)), (.v (.string a1))] [] (strings_Contains.res a0 a1 y) (strings_Contains.out a0 a1 y) := by
  have hg := grd_p H
  have H := Option.some.inj (grd_k H)
  subst H
  exact ext_strings_Contains a0 a1 hg
def G58 : Env := G57.add 164 [] strings_Contains.S
theorem G58_ok : EnvOk Tryz.prog G58 := G57_ok.add ent_164 fun ar h r h1 ⟨a0, a1, y, hy, e1, e2, e3, e4⟩ => by
  subst e3 e4; exact (strings_Contains.spec a0 a1 y hy).le e1 e2
attribute [local irreducible] strings_Contains

noncomputable def impl_checksum_loop1 (a0 : ByteArray) (v3 : Int) (v4 : Int) : Option (Lp (Int × Int) ((Int))) :=
  (cond (decide (v4 < (a0.size : Int))) (grd (0 ≤ v4 ∧ v4 < (a0.size : Int)) (grd ((999979 : Int) ≠ 0) (some (.go ((Int.tmod (w64 ((w64 ((w64 ((41 : Int) * v3)) + (w64 (bAt a0 v4)))) + (1 : Int))) (999979 : Int)), (w64 (v4 + (1 : Int)))))))) ((some (.out v3))))
noncomputable def impl_checksum (a0 : ByteArray) : Option (Int) :=
  ((iter (fun s => impl_checksum_loop1 a0 s.1 s.2) ((7 : Int), (0 : Int))).bind (fun r5 => (some r5)))
def impl_checksum.res (_ : ByteArray) (y : Int) : AV := (.v (.int .i64 y))
def impl_checksum.out (_ : ByteArray) (_ : Int) : List (Option LB) := []
def impl_checksum.S (ar : List AV) (h : List (Option LB)) (r : AV) (h1 : List (Option LB)) : Prop := ∃ a0 y, impl_checksum a0 = some y ∧ leL ar [(.v (.string a0))] ∧ leH h [] ∧ r = impl_checksum.res a0 y ∧ h1 = impl_checksum.out a0 y
theorem impl_checksum.call {ar h a0 y} (H : impl_checksum a0 = some y) (h0 : leLk ar [(.v (.string a0))] (leHk h [])) : impl_checksum.S ar h (impl_checksum.res a0 y) (impl_checksum.out a0 y) := ⟨a0, y, H, (args_ok h0).1, (args_ok h0).2, rfl, rfl⟩
theorem impl_checksum.spec (a0 y) (H : impl_checksum a0 = some y) : Spec Tryz.prog 165 [(.v (.string a0))] [] (impl_checksum.res a0 y) (impl_checksum.out a0 y) := by
  refine spec_intro (G58_ok.at tok []) (ct := []) Tryz.func165 rfl (by kernel_rfl) (by kernel_rfl) rfl ?_
  repeat' first
    | ((with_reducible refine eqg ?_); exact rfl)
    | ((with_reducible refine KOb.mk ?_); kernel_rfl)
    | ((with_reducible intro h); (repeat first | replace H := grd_k H | replace H := out_step H ‹_›); first | replace H := cond_t h H | replace H := cond_f h H | exact absurd h (by decide) | skip)
    | ((with_reducible refine Ob.mk ?_); first | (with_reducible rfl) | (first | ((repeat (first | (with_reducible exact grd_p H) | replace H := grd_k H | replace H := out_step H ‹_›)); done) | rfl | ((repeat (first | exact grd_p H | (have hp := grd_p H; exact hp) | replace H := grd_k H | replace H := out_step H ‹_› | (replace H := bind_some H; obtain ⟨_, _, H⟩ := H))); done) | (repeat (first | exact grd_p H | replace H := grd_k H | replace H := out_step H ‹_›))))
    | (with_reducible exact True.intro)
    | ((conv => whnf); first
        | (with_reducible refine And.intro ?_ ?_)
        | (with_reducible exact True.intro)
        | (with_reducible refine (?_ : Ob _))
        | ((repeat first | replace H := grd_k H | replace H := out_step H ‹_›); refine loop_iter (G58_ok.at tok []) (ct := []) (F := (fun s1 : Int × Int => ⟨sl [(0, (.v (.string a0))), (3, (.v (.int .i64 s1.1))), (6, (.v (.int .i64 (a0.size : Int)))), (7, (.v (.int .i64 s1.2)))], []⟩)) (step := (fun s : Int × Int => impl_checksum_loop1 _ s.1 s.2)) _ H (by kernel_rfl) (sub_auto ?_) ?_; rotate_left; (intro s1 r v hr H); rotate_right)
        | ((repeat first | replace H := grd_k H | replace H := out_step H ‹_›); refine again_step H (by assumption) (sub_auto ?_))
        | ((with_reducible refine fin_mk ?_); (repeat first | replace H := grd_k H | replace H := out_step H ‹_›); have H := Option.some.inj H; subst H))
    | constructor
def G59 : Env := G58.add 165 [] impl_checksum.S
theorem G59_ok : EnvOk Tryz.prog G59 := G58_ok.add ent_165 fun ar h r h1 ⟨a0, y, hy, e1, e2, e3, e4⟩ => by
  subst e3 e4; exact (impl_checksum.spec a0 y hy).le e1 e2
attribute [local irreducible] impl_checksum

noncomputable def strconv_Itoa (a0 : Int) : Option (ByteArray) :=
  (grd (-9223372036854775808 ≤ a0 ∧ a0 ≤ 9223372036854775807) ((some (itoaB a0))))
def strconv_Itoa.res (_ : Int) (y : ByteArray) : AV := (.v (.string y))
def strconv_Itoa.out (_ : Int) (_ : ByteArray) : List (Option LB) := []
def strconv_Itoa.S (ar : List AV) (h : List (Option LB)) (r : AV) (h1 : List (Option LB)) : Prop := ∃ a0 y, strconv_Itoa a0 = some y ∧ leL ar [(.v (.int .i64 a0))] ∧ leH h [] ∧ r = strconv_Itoa.res a0 y ∧ h1 = strconv_Itoa.out a0 y
theorem strconv_Itoa.call {ar h a0 y} (H : strconv_Itoa a0 = some y) (h0 : leLk ar [(.v (.int .i64 a0))] (leHk h [])) : strconv_Itoa.S ar h (strconv_Itoa.res a0 y) (strconv_Itoa.out a0 y) := ⟨a0, y, H, (args_ok h0).1, (args_ok h0).2, rfl, rfl⟩
theorem strconv_Itoa.spec (a0 y) (H : strconv_Itoa a0 = some y) : Spec Tryz.prog 61 [(.v (.int .i64 a0))] [] (strconv_Itoa.res a0 y) (strconv_Itoa.out a0 y) := by
  have hg := grd_p H
  have H := Option.some.inj (grd_k H)
  subst H
  exact ext_strconv_Itoa a0 hg
def G60 : Env := G59.add 61 [] strconv_Itoa.S
theorem G60_ok : EnvOk Tryz.prog G60 := G59_ok.add ent_61 fun ar h r h1 ⟨a0, y, hy, e1, e2, e3, e4⟩ => by
  subst e3 e4; exact (strconv_Itoa.spec a0 y hy).le e1 e2
attribute [local irreducible] strconv_Itoa

end Go.Proofs.YtaobinhdnklojaaGreatDoor
namespace Go.Proofs.YtaobinhdnklojaaGreatDoor
open Go.RowKit
set_option maxHeartbeats 100000000
set_option maxRecDepth 100000
attribute [local irreducible] Ob loopwp Sub Spec Fin Again CallW CutC KOb iter

attribute [local irreducible] spec_l1Num_f strings_Cut strings_Contains impl_checksum strconv_Itoa

noncomputable def impl_AppendChecksum (a0 : ByteArray) : Option (ByteArray × Bool) :=
  (cond (decide ((4000 : Int) < (a0.size : Int))) ((some ((ByteArray.mk #[]), false))) ((strings_Contains a0 (ByteArray.mk #[35])).bind fun y1 => (cond y1 ((some ((ByteArray.mk #[]), false))) (grd (a0.size + (ByteArray.mk #[35]).size ≤ 9223372036854775807) ((impl_checksum a0).bind fun y2 => ((strconv_Itoa y2).bind fun y3 => (grd ((a0 ++ (ByteArray.mk #[35])).size + y3.size ≤ 9223372036854775807) (cond (decide ((4000 : Int) < (((a0 ++ (ByteArray.mk #[35])) ++ y3).size : Int))) ((some ((ByteArray.mk #[]), false))) ((some (((a0 ++ (ByteArray.mk #[35])) ++ y3), true)))))))))))
def impl_AppendChecksum.res (_ : ByteArray) (y : ByteArray × Bool) : AV := (.tup [(.v (.string y.1)), (.bl y.2)])
def impl_AppendChecksum.out (_ : ByteArray) (_ : ByteArray × Bool) : List (Option LB) := []
def impl_AppendChecksum.S (ar : List AV) (h : List (Option LB)) (r : AV) (h1 : List (Option LB)) : Prop := ∃ a0 y, impl_AppendChecksum a0 = some y ∧ leL ar [(.v (.string a0))] ∧ leH h [] ∧ r = impl_AppendChecksum.res a0 y ∧ h1 = impl_AppendChecksum.out a0 y
theorem impl_AppendChecksum.call {ar h a0 y} (H : impl_AppendChecksum a0 = some y) (h0 : leLk ar [(.v (.string a0))] (leHk h [])) : impl_AppendChecksum.S ar h (impl_AppendChecksum.res a0 y) (impl_AppendChecksum.out a0 y) := ⟨a0, y, H, (args_ok h0).1, (args_ok h0).2, rfl, rfl⟩
theorem impl_AppendChecksum.spec (a0 y) (H : impl_AppendChecksum a0 = some y) : Spec Tryz.prog 138 [(.v (.string a0))] [] (impl_AppendChecksum.res a0 y) (impl_AppendChecksum.out a0 y) := by
  refine spec_intro (G60_ok.at tok []) (ct := [(4, some [4])]) Tryz.func138 rfl (by kernel_rfl) (by kernel_rfl) rfl ?_
  repeat' first
    | ((with_reducible refine eqg ?_); exact rfl)
    | ((with_reducible refine KOb.mk ?_); kernel_rfl)
    | ((with_reducible intro h); (repeat first | replace H := grd_k H | replace H := out_step H ‹_›); first | replace H := cond_t h H | replace H := cond_f h H | exact absurd h (by decide) | skip)
    | ((with_reducible refine Ob.mk ?_); first | (with_reducible rfl) | (first | ((repeat (first | (with_reducible exact grd_p H) | replace H := grd_k H | replace H := out_step H ‹_›)); done) | rfl | ((repeat (first | exact grd_p H | (have hp := grd_p H; exact hp) | replace H := grd_k H | replace H := out_step H ‹_› | (replace H := bind_some H; obtain ⟨_, _, H⟩ := H))); done) | (repeat (first | exact grd_p H | replace H := grd_k H | replace H := out_step H ‹_›))))
    | (with_reducible exact True.intro)
    | ((conv => whnf); first
        | (with_reducible refine And.intro ?_ ?_)
        | (with_reducible exact True.intro)
        | (with_reducible refine (?_ : Ob _))
        | ((with_reducible refine CallW.mk ?_); (repeat first | replace H := grd_k H | replace H := out_step H ‹_›); replace H := bind_some H; obtain ⟨y, hy, H⟩ := H; first | ((with_reducible have hz : strings_Contains _ _ = some y := hy); clear hz; refine ⟨_, _, strings_Contains.call hy ?_, rfl, rfl, ?_⟩) | ((with_reducible have hz : impl_checksum _ = some y := hy); clear hz; refine ⟨_, _, impl_checksum.call hy ?_, rfl, rfl, ?_⟩) | ((with_reducible have hz : strconv_Itoa _ = some y := hy); clear hz; refine ⟨_, _, strconv_Itoa.call hy ?_, rfl, rfl, ?_⟩))
        | ((with_reducible refine fin_mk ?_); (repeat first | replace H := grd_k H | replace H := out_step H ‹_›); have H := Option.some.inj H; subst H))
    | constructor
def G61 : Env := G60.add 138 [] impl_AppendChecksum.S
theorem G61_ok : EnvOk Tryz.prog G61 := G60_ok.add ent_138 fun ar h r h1 ⟨a0, y, hy, e1, e2, e3, e4⟩ => by
  subst e3 e4; exact (impl_AppendChecksum.spec a0 y hy).le e1 e2
attribute [local irreducible] impl_AppendChecksum

noncomputable def impl_VerifyChecksum (a0 : ByteArray) : Option (ByteArray × Bool) :=
  ((strings_Cut a0 (ByteArray.mk #[35])).bind fun y1 => ((impl_AppendChecksum y1.1).bind fun y2 => (cond (!y2.2) ((some ((ByteArray.mk #[]), false))) (cond (!decide (y2.1 = a0)) ((some ((ByteArray.mk #[]), false))) ((some (y1.1, true)))))))
def impl_VerifyChecksum.res (_ : ByteArray) (y : ByteArray × Bool) : AV := (.tup [(.v (.string y.1)), (.bl y.2)])
def impl_VerifyChecksum.out (_ : ByteArray) (_ : ByteArray × Bool) : List (Option LB) := []
def impl_VerifyChecksum.S (ar : List AV) (h : List (Option LB)) (r : AV) (h1 : List (Option LB)) : Prop := ∃ a0 y, impl_VerifyChecksum a0 = some y ∧ leL ar [(.v (.string a0))] ∧ leH h [] ∧ r = impl_VerifyChecksum.res a0 y ∧ h1 = impl_VerifyChecksum.out a0 y
theorem impl_VerifyChecksum.call {ar h a0 y} (H : impl_VerifyChecksum a0 = some y) (h0 : leLk ar [(.v (.string a0))] (leHk h [])) : impl_VerifyChecksum.S ar h (impl_VerifyChecksum.res a0 y) (impl_VerifyChecksum.out a0 y) := ⟨a0, y, H, (args_ok h0).1, (args_ok h0).2, rfl, rfl⟩
theorem impl_VerifyChecksum.spec (a0 y) (H : impl_VerifyChecksum a0 = some y) : Spec Tryz.prog 150 [(.v (.string a0))] [] (impl_VerifyChecksum.res a0 y) (impl_VerifyChecksum.out a0 y) := by
  refine spec_intro (G61_ok.at tok []) (ct := [(3, some [0, 4, 7, 8, 23, 24, 25])]) Tryz.func150 rfl (by kernel_rfl) (by kernel_rfl) rfl ?_
  repeat' first
    | ((with_reducible refine eqg ?_); exact rfl)
    | ((with_reducible refine KOb.mk ?_); kernel_rfl)
    | ((with_reducible intro h); (repeat first | replace H := grd_k H | replace H := out_step H ‹_›); first | replace H := cond_t h H | replace H := cond_f h H | exact absurd h (by decide) | skip)
    | ((with_reducible refine Ob.mk ?_); first | (with_reducible rfl) | (first | ((repeat (first | (with_reducible exact grd_p H) | replace H := grd_k H | replace H := out_step H ‹_›)); done) | rfl | ((repeat (first | exact grd_p H | (have hp := grd_p H; exact hp) | replace H := grd_k H | replace H := out_step H ‹_› | (replace H := bind_some H; obtain ⟨_, _, H⟩ := H))); done) | (repeat (first | exact grd_p H | replace H := grd_k H | replace H := out_step H ‹_›))))
    | (with_reducible exact True.intro)
    | ((conv => whnf); first
        | (with_reducible refine And.intro ?_ ?_)
        | (with_reducible exact True.intro)
        | (with_reducible refine (?_ : Ob _))
        | ((with_reducible refine CallW.mk ?_); (repeat first | replace H := grd_k H | replace H := out_step H ‹_›); replace H := bind_some H; obtain ⟨y, hy, H⟩ := H; first | ((with_reducible have hz : strings_Cut _ _ = some y := hy); clear hz; refine ⟨_, _, strings_Cut.call hy ?_, rfl, rfl, ?_⟩) | ((with_reducible have hz : impl_AppendChecksum _ = some y := hy); clear hz; refine ⟨_, _, impl_AppendChecksum.call hy ?_, rfl, rfl, ?_⟩))
        | ((with_reducible refine fin_mk ?_); (repeat first | replace H := grd_k H | replace H := out_step H ‹_›); have H := Option.some.inj H; subst H))
    | constructor
def G62 : Env := G61.add 150 [] impl_VerifyChecksum.S
theorem G62_ok : EnvOk Tryz.prog G62 := G61_ok.add ent_150 fun ar h r h1 ⟨a0, y, hy, e1, e2, e3, e4⟩ => by
  subst e3 e4; exact (impl_VerifyChecksum.spec a0 y hy).le e1 e2
attribute [local irreducible] impl_VerifyChecksum

noncomputable def internal_stringslite_HasPrefix (a0 : ByteArray) (a1 : ByteArray) : Option (Bool) :=
  (cond (decide ((a1.size : Int) ≤ (a0.size : Int))) (grd (0 ≤ (0 : Int) ∧ (0 : Int) ≤ (a1.size : Int) ∧ (a1.size : Int) ≤ (a0.size : Int)) ((some (decide ((bsub a0 (0 : Int) (a1.size : Int)) = a1))))) ((some false)))
def internal_stringslite_HasPrefix.res (_ : ByteArray) (_ : ByteArray) (y : Bool) : AV := (.bl y)
def internal_stringslite_HasPrefix.out (_ : ByteArray) (_ : ByteArray) (_ : Bool) : List (Option LB) := []
def internal_stringslite_HasPrefix.S (ar : List AV) (h : List (Option LB)) (r : AV) (h1 : List (Option LB)) : Prop := ∃ a0 a1 y, internal_stringslite_HasPrefix a0 a1 = some y ∧ leL ar [(.v (.string a0)), (.v (.string a1))] ∧ leH h [] ∧ r = internal_stringslite_HasPrefix.res a0 a1 y ∧ h1 = internal_stringslite_HasPrefix.out a0 a1 y
theorem internal_stringslite_HasPrefix.call {ar h a0 a1 y} (H : internal_stringslite_HasPrefix a0 a1 = some y) (h0 : leLk ar [(.v (.string a0)), (.v (.string a1))] (leHk h [])) : internal_stringslite_HasPrefix.S ar h (internal_stringslite_HasPrefix.res a0 a1 y) (internal_stringslite_HasPrefix.out a0 a1 y) := ⟨a0, a1, y, H, (args_ok h0).1, (args_ok h0).2, rfl, rfl⟩
theorem internal_stringslite_HasPrefix.spec (a0 a1 y) (H : internal_stringslite_HasPrefix a0 a1 = some y) : Spec Tryz.prog 203 [(.v (.string a0)), (.v (.string a1))] [] (internal_stringslite_HasPrefix.res a0 a1 y) (internal_stringslite_HasPrefix.out a0 a1 y) := by
  refine spec_intro (G62_ok.at tok []) (ct := []) Tryz.func203 rfl (by kernel_rfl) (by kernel_rfl) rfl ?_
  repeat' first
    | ((with_reducible refine eqg ?_); exact rfl)
    | ((with_reducible refine KOb.mk ?_); kernel_rfl)
    | ((with_reducible intro h); (repeat first | replace H := grd_k H | replace H := out_step H ‹_›); first | replace H := cond_t h H | replace H := cond_f h H | exact absurd h (by decide) | skip)
    | ((with_reducible refine Ob.mk ?_); first | (with_reducible rfl) | (first | ((repeat (first | (with_reducible exact grd_p H) | replace H := grd_k H | replace H := out_step H ‹_›)); done) | rfl | ((repeat (first | exact grd_p H | (have hp := grd_p H; exact hp) | replace H := grd_k H | replace H := out_step H ‹_› | (replace H := bind_some H; obtain ⟨_, _, H⟩ := H))); done) | (repeat (first | exact grd_p H | replace H := grd_k H | replace H := out_step H ‹_›))))
    | (with_reducible exact True.intro)
    | ((conv => whnf); first
        | (with_reducible refine And.intro ?_ ?_)
        | (with_reducible exact True.intro)
        | (with_reducible refine (?_ : Ob _))
        | ((with_reducible refine fin_mk ?_); (repeat first | replace H := grd_k H | replace H := out_step H ‹_›); have H := Option.some.inj H; subst H))
    | constructor
def G63 : Env := G62.add 203 [] internal_stringslite_HasPrefix.S
theorem G63_ok : EnvOk Tryz.prog G63 := G62_ok.add ent_203 fun ar h r h1 ⟨a0, a1, y, hy, e1, e2, e3, e4⟩ => by
  subst e3 e4; exact (internal_stringslite_HasPrefix.spec a0 a1 y hy).le e1 e2
attribute [local irreducible] internal_stringslite_HasPrefix

noncomputable def internal_stringslite_CutPrefix (a0 : ByteArray) (a1 : ByteArray) : Option (ByteArray × Bool) :=
  ((internal_stringslite_HasPrefix a0 a1).bind fun y1 => (cond (!y1) ((some (a0, false))) (grd (0 ≤ (a1.size : Int) ∧ (a1.size : Int) ≤ (a0.size : Int) ∧ (a0.size : Int) ≤ (a0.size : Int)) ((some ((bsub a0 (a1.size : Int) (a0.size : Int)), true))))))
def internal_stringslite_CutPrefix.res (_ : ByteArray) (_ : ByteArray) (y : ByteArray × Bool) : AV := (.tup [(.v (.string y.1)), (.bl y.2)])
def internal_stringslite_CutPrefix.out (_ : ByteArray) (_ : ByteArray) (_ : ByteArray × Bool) : List (Option LB) := []
def internal_stringslite_CutPrefix.S (ar : List AV) (h : List (Option LB)) (r : AV) (h1 : List (Option LB)) : Prop := ∃ a0 a1 y, internal_stringslite_CutPrefix a0 a1 = some y ∧ leL ar [(.v (.string a0)), (.v (.string a1))] ∧ leH h [] ∧ r = internal_stringslite_CutPrefix.res a0 a1 y ∧ h1 = internal_stringslite_CutPrefix.out a0 a1 y
theorem internal_stringslite_CutPrefix.call {ar h a0 a1 y} (H : internal_stringslite_CutPrefix a0 a1 = some y) (h0 : leLk ar [(.v (.string a0)), (.v (.string a1))] (leHk h [])) : internal_stringslite_CutPrefix.S ar h (internal_stringslite_CutPrefix.res a0 a1 y) (internal_stringslite_CutPrefix.out a0 a1 y) := ⟨a0, a1, y, H, (args_ok h0).1, (args_ok h0).2, rfl, rfl⟩
theorem internal_stringslite_CutPrefix.spec (a0 a1 y) (H : internal_stringslite_CutPrefix a0 a1 = some y) : Spec Tryz.prog 179 [(.v (.string a0)), (.v (.string a1))] [] (internal_stringslite_CutPrefix.res a0 a1 y) (internal_stringslite_CutPrefix.out a0 a1 y) := by
  refine spec_intro (G63_ok.at tok []) (ct := []) Tryz.func179 rfl (by kernel_rfl) (by kernel_rfl) rfl ?_
  repeat' first
    | ((with_reducible refine eqg ?_); exact rfl)
    | ((with_reducible refine KOb.mk ?_); kernel_rfl)
    | ((with_reducible intro h); (repeat first | replace H := grd_k H | replace H := out_step H ‹_›); first | replace H := cond_t h H | replace H := cond_f h H | exact absurd h (by decide) | skip)
    | ((with_reducible refine Ob.mk ?_); first | (with_reducible rfl) | (first | ((repeat (first | (with_reducible exact grd_p H) | replace H := grd_k H | replace H := out_step H ‹_›)); done) | rfl | ((repeat (first | exact grd_p H | (have hp := grd_p H; exact hp) | replace H := grd_k H | replace H := out_step H ‹_› | (replace H := bind_some H; obtain ⟨_, _, H⟩ := H))); done) | (repeat (first | exact grd_p H | replace H := grd_k H | replace H := out_step H ‹_›))))
    | (with_reducible exact True.intro)
    | ((conv => whnf); first
        | (with_reducible refine And.intro ?_ ?_)
        | (with_reducible exact True.intro)
        | (with_reducible refine (?_ : Ob _))
        | ((with_reducible refine CallW.mk ?_); (repeat first | replace H := grd_k H | replace H := out_step H ‹_›); replace H := bind_some H; obtain ⟨y, hy, H⟩ := H; first | ((with_reducible have hz : internal_stringslite_HasPrefix _ _ = some y := hy); clear hz; refine ⟨_, _, internal_stringslite_HasPrefix.call hy ?_, rfl, rfl, ?_⟩))
        | ((with_reducible refine fin_mk ?_); (repeat first | replace H := grd_k H | replace H := out_step H ‹_›); have H := Option.some.inj H; subst H))
    | constructor
def G64 : Env := G63.add 179 [] internal_stringslite_CutPrefix.S
theorem G64_ok : EnvOk Tryz.prog G64 := G63_ok.add ent_179 fun ar h r h1 ⟨a0, a1, y, hy, e1, e2, e3, e4⟩ => by
  subst e3 e4; exact (internal_stringslite_CutPrefix.spec a0 a1 y hy).le e1 e2
attribute [local irreducible] internal_stringslite_CutPrefix

noncomputable def strings_CutPrefix (a0 : ByteArray) (a1 : ByteArray) : Option (ByteArray × Bool) :=
  ((internal_stringslite_CutPrefix a0 a1).bind fun y1 => (some (y1.1, y1.2)))
def strings_CutPrefix.res (_ : ByteArray) (_ : ByteArray) (y : ByteArray × Bool) : AV := (.tup [(.v (.string y.1)), (.bl y.2)])
def strings_CutPrefix.out (_ : ByteArray) (_ : ByteArray) (_ : ByteArray × Bool) : List (Option LB) := []
def strings_CutPrefix.S (ar : List AV) (h : List (Option LB)) (r : AV) (h1 : List (Option LB)) : Prop := ∃ a0 a1 y, strings_CutPrefix a0 a1 = some y ∧ leL ar [(.v (.string a0)), (.v (.string a1))] ∧ leH h [] ∧ r = strings_CutPrefix.res a0 a1 y ∧ h1 = strings_CutPrefix.out a0 a1 y
theorem strings_CutPrefix.call {ar h a0 a1 y} (H : strings_CutPrefix a0 a1 = some y) (h0 : leLk ar [(.v (.string a0)), (.v (.string a1))] (leHk h [])) : strings_CutPrefix.S ar h (strings_CutPrefix.res a0 a1 y) (strings_CutPrefix.out a0 a1 y) := ⟨a0, a1, y, H, (args_ok h0).1, (args_ok h0).2, rfl, rfl⟩
theorem strings_CutPrefix.spec (a0 a1 y) (H : strings_CutPrefix a0 a1 = some y) : Spec Tryz.prog 151 [(.v (.string a0)), (.v (.string a1))] [] (strings_CutPrefix.res a0 a1 y) (strings_CutPrefix.out a0 a1 y) := by
  refine spec_intro (G64_ok.at tok []) (ct := []) Tryz.func151 rfl (by kernel_rfl) (by kernel_rfl) rfl ?_
  repeat' first
    | ((with_reducible refine eqg ?_); exact rfl)
    | ((with_reducible refine KOb.mk ?_); kernel_rfl)
    | ((with_reducible intro h); (repeat first | replace H := grd_k H | replace H := out_step H ‹_›); first | replace H := cond_t h H | replace H := cond_f h H | exact absurd h (by decide) | skip)
    | ((with_reducible refine Ob.mk ?_); first | (with_reducible rfl) | (first | ((repeat (first | (with_reducible exact grd_p H) | replace H := grd_k H | replace H := out_step H ‹_›)); done) | rfl | ((repeat (first | exact grd_p H | (have hp := grd_p H; exact hp) | replace H := grd_k H | replace H := out_step H ‹_› | (replace H := bind_some H; obtain ⟨_, _, H⟩ := H))); done) | (repeat (first | exact grd_p H | replace H := grd_k H | replace H := out_step H ‹_›))))
    | (with_reducible exact True.intro)
    | ((conv => whnf); first
        | (with_reducible refine And.intro ?_ ?_)
        | (with_reducible exact True.intro)
        | (with_reducible refine (?_ : Ob _))
        | ((with_reducible refine CallW.mk ?_); (repeat first | replace H := grd_k H | replace H := out_step H ‹_›); replace H := bind_some H; obtain ⟨y, hy, H⟩ := H; first | ((with_reducible have hz : internal_stringslite_CutPrefix _ _ = some y := hy); clear hz; refine ⟨_, _, internal_stringslite_CutPrefix.call hy ?_, rfl, rfl, ?_⟩))
        | ((with_reducible refine fin_mk ?_); (repeat first | replace H := grd_k H | replace H := out_step H ‹_›); have H := Option.some.inj H; subst H))
    | constructor
def G65 : Env := G64.add 151 [] strings_CutPrefix.S
theorem G65_ok : EnvOk Tryz.prog G65 := G64_ok.add ent_151 fun ar h r h1 ⟨a0, a1, y, hy, e1, e2, e3, e4⟩ => by
  subst e3 e4; exact (strings_CutPrefix.spec a0 a1 y hy).le e1 e2
attribute [local irreducible] strings_CutPrefix

noncomputable def strings_ContainsAny (a0 : ByteArray) (a1 : ByteArray) : Option (Bool) :=
  (grd (a0.size < 4294967281 ∧ a1.size < 4294967281 ∧ asciiB a0 = true ∧ asciiB a1 = true) ((some (anyOf a0 a1))))
def strings_ContainsAny.res (_ : ByteArray) (_ : ByteArray) (y : Bool) : AV := (.bl y)
def strings_ContainsAny.out (_ : ByteArray) (_ : ByteArray) (_ : Bool) : List (Option LB) := []
def strings_ContainsAny.S (ar : List AV) (h : List (Option LB)) (r : AV) (h1 : List (Option LB)) : Prop := ∃ a0 a1 y, strings_ContainsAny a0 a1 = some y ∧ leL ar [(.v (.string a0)), (.v (.string a1))] ∧ leH h [] ∧ r = strings_ContainsAny.res a0 a1 y ∧ h1 = strings_ContainsAny.out a0 a1 y
theorem strings_ContainsAny.call {ar h a0 a1 y} (H : strings_ContainsAny a0 a1 = some y) (h0 : leLk ar [(.v (.string a0)), (.v (.string a1))] (leHk h [])) : strings_ContainsAny.S ar h (strings_ContainsAny.res a0 a1 y) (strings_ContainsAny.out a0 a1 y) := ⟨a0, a1, y, H, (args_ok h0).1, (args_ok h0).2, rfl, rfl⟩
theorem strings_ContainsAny.spec (a0 a1 y) (H : strings_ContainsAny a0 a1 = some y) : Spec Tryz.prog 127 [(.v (.string a0)), (.v (.string a1))] [] (strings_ContainsAny.res a0 a1 y) (strings_ContainsAny.out a0 a1 y) := by
  have hg := grd_p H
  have H := Option.some.inj (grd_k H)
  subst H
  exact ext_strings_ContainsAny a0 a1 hg
def G66 : Env := G65.add 127 [] strings_ContainsAny.S
theorem G66_ok : EnvOk Tryz.prog G66 := G65_ok.add ent_127 fun ar h r h1 ⟨a0, a1, y, hy, e1, e2, e3, e4⟩ => by
  subst e3 e4; exact (strings_ContainsAny.spec a0 a1 y hy).le e1 e2
attribute [local irreducible] strings_ContainsAny

end Go.Proofs.YtaobinhdnklojaaGreatDoor
