/-
  Contracts, printed by a program.
-/
import Derived.Test.YtaobinhdnklojaaGreatDoorXQ
namespace Go.Proofs.YtaobinhdnklojaaGreatDoor
open Go.RowKit
attribute [local irreducible] Ob loopwp Sub Spec Fin Again CallW CutC KOb iter

noncomputable def laws_szLog (a0 : Log) (a1 : Int) : Option (Int) :=
  (cond (decide ((w64 (a1 - (a0.1.size : Int))) < (0 : Int))) ((some ((-1) : Int))) (cond (decide ((w64 ((w64 (a1 - (a0.1.size : Int))) - (a0.2.1.size : Int))) < (0 : Int))) ((some ((-1) : Int))) ((some (w64 ((w64 (a1 - (a0.1.size : Int))) - (a0.2.1.size : Int)))))))
def laws_szLog.res (_ : Log) (_ : Int) (y : Int) : AV := (.v (.int .i64 y))
def laws_szLog.out (_ : Log) (_ : Int) (_ : Int) : List (Option LB) := []
def laws_szLog.S (ar : List AV) (h : List (Option LB)) (r : AV) (h1 : List (Option LB)) : Prop := ∃ a0 a1 y, laws_szLog a0 a1 = some y ∧ leL ar [(.agg [(.v (.string a0.1)), (.v (.string a0.2.1)), (.v (.int .i64 a0.2.2.1))]), (.v (.int .i64 a1))] ∧ leH h [] ∧ r = laws_szLog.res a0 a1 y ∧ h1 = laws_szLog.out a0 a1 y
theorem laws_szLog.call {ar h a0 a1 y} (H : laws_szLog a0 a1 = some y) (h0 : leLk ar [(.agg [(.v (.string a0.1)), (.v (.string a0.2.1)), (.v (.int .i64 a0.2.2.1))]), (.v (.int .i64 a1))] (leHk h [])) : laws_szLog.S ar h (laws_szLog.res a0 a1 y) (laws_szLog.out a0 a1 y) := ⟨a0, a1, y, H, (args_ok h0).1, (args_ok h0).2, rfl, rfl⟩
set_option maxHeartbeats 100000000 in
set_option maxRecDepth 100000 in
theorem laws_szLog.spec (a0 a1 y) (H : laws_szLog a0 a1 = some y) : Spec Tryz.prog 8 [(.agg [(.v (.string a0.1)), (.v (.string a0.2.1)), (.v (.int .i64 a0.2.2.1))]), (.v (.int .i64 a1))] [] (laws_szLog.res a0 a1 y) (laws_szLog.out a0 a1 y) := by
  refine spec_intro (G0_ok.at tok []) (ct := [(5, some [1])]) Tryz.func8 rfl (by kernel_rfl) (by kernel_rfl) rfl ?_
  repeat' first
    | ((with_reducible refine eqg ?_); exact rfl)
    | ((with_reducible refine KOb.mk ?_); kernel_rfl)
    | ((with_reducible intro h); (repeat first | replace H := grd_k H | replace H := out_step H ‹_›); first | replace H := cond_t h H | replace H := cond_f h H | exact absurd h (by decide) | skip)
    | ((with_reducible refine Ob.mk ?_); first | (with_reducible rfl) | (first | ((repeat (first | (with_reducible exact grd_p H) | replace H := grd_k H | replace H := out_step H ‹_›)); done) | rfl | ((repeat (first | exact grd_p H | (have hp := grd_p H; exact hp) | replace H := grd_k H | replace H := out_step H ‹_› | (replace H := bind_some H; obtain ⟨_, _, H⟩ := H))); done) | (repeat (first | exact grd_p H | replace H := grd_k H | replace H := out_step H ‹_›))))
    | (with_reducible exact True.intro)
    | ((conv => whnf); first
        | (with_reducible refine And.intro ?_ ?_)
        | (with_reducible exact True.intro)
        | (with_reducible refine (?_ : Ob _))
        | ((with_reducible refine fin_mk ?_); (repeat first | replace H := grd_k H | replace H := out_step H ‹_›); have H := Option.some.inj H; subst H))
    | constructor
def G3 : Env := G0.add 8 [] laws_szLog.S
theorem G3_ok : EnvOk Tryz.prog G3 := G0_ok.add ent_8 fun ar h r h1 ⟨a0, a1, y, hy, e1, e2, e3, e4⟩ => by
  subst e3 e4; exact (laws_szLog.spec a0 a1 y hy).le e1 e2
attribute [local irreducible] laws_szLog

end Go.Proofs.YtaobinhdnklojaaGreatDoor
namespace Go.Proofs.YtaobinhdnklojaaGreatDoor
open Go.RowKit
set_option maxHeartbeats 100000000
set_option maxRecDepth 100000
attribute [local irreducible] Ob loopwp Sub Spec Fin Again CallW CutC KOb iter

noncomputable def laws_toLog (a0 : Log) : Option (Log) :=
  (some (a0.1, a0.2.1, a0.2.2.1, ()))
def laws_toLog.res (_ : Log) (y : Log) : AV := (.agg [(.v (.string y.1)), (.v (.string y.2.1)), (.v (.int .i64 y.2.2.1))])
def laws_toLog.out (_ : Log) (_ : Log) : List (Option LB) := []
def laws_toLog.S (ar : List AV) (h : List (Option LB)) (r : AV) (h1 : List (Option LB)) : Prop := ∃ a0 y, laws_toLog a0 = some y ∧ leL ar [(.agg [(.v (.string a0.1)), (.v (.string a0.2.1)), (.v (.int .i64 a0.2.2.1))])] ∧ leH h [] ∧ r = laws_toLog.res a0 y ∧ h1 = laws_toLog.out a0 y
theorem laws_toLog.call {ar h a0 y} (H : laws_toLog a0 = some y) (h0 : leLk ar [(.agg [(.v (.string a0.1)), (.v (.string a0.2.1)), (.v (.int .i64 a0.2.2.1))])] (leHk h [])) : laws_toLog.S ar h (laws_toLog.res a0 y) (laws_toLog.out a0 y) := ⟨a0, y, H, (args_ok h0).1, (args_ok h0).2, rfl, rfl⟩
theorem laws_toLog.spec (a0 y) (H : laws_toLog a0 = some y) : Spec Tryz.prog 10 [(.agg [(.v (.string a0.1)), (.v (.string a0.2.1)), (.v (.int .i64 a0.2.2.1))])] [] (laws_toLog.res a0 y) (laws_toLog.out a0 y) := by
  refine spec_intro (G3_ok.at tok []) (ct := []) Tryz.func10 rfl (by kernel_rfl) (by kernel_rfl) rfl ?_
  repeat' first
    | ((with_reducible refine eqg ?_); exact rfl)
    | ((with_reducible refine KOb.mk ?_); kernel_rfl)
    | ((with_reducible intro h); (repeat first | replace H := grd_k H | replace H := out_step H ‹_›); first | replace H := cond_t h H | replace H := cond_f h H | exact absurd h (by decide) | skip)
    | ((with_reducible refine Ob.mk ?_); first | (with_reducible rfl) | (first | ((repeat (first | (with_reducible exact grd_p H) | replace H := grd_k H | replace H := out_step H ‹_›)); done) | rfl | ((repeat (first | exact grd_p H | (have hp := grd_p H; exact hp) | replace H := grd_k H | replace H := out_step H ‹_› | (replace H := bind_some H; obtain ⟨_, _, H⟩ := H))); done) | (repeat (first | exact grd_p H | replace H := grd_k H | replace H := out_step H ‹_›))))
    | (with_reducible exact True.intro)
    | ((conv => whnf); first
        | (with_reducible refine And.intro ?_ ?_)
        | (with_reducible exact True.intro)
        | (with_reducible refine (?_ : Ob _))
        | ((with_reducible refine fin_mk ?_); (repeat first | replace H := grd_k H | replace H := out_step H ‹_›); have H := Option.some.inj H; subst H))
    | constructor
def G8 : Env := G3.add 10 [] laws_toLog.S
theorem G8_ok : EnvOk Tryz.prog G8 := G3_ok.add ent_10 fun ar h r h1 ⟨a0, y, hy, e1, e2, e3, e4⟩ => by
  subst e3 e4; exact (laws_toLog.spec a0 y hy).le e1 e2
attribute [local irreducible] laws_toLog

noncomputable def spec_l25Own (a0 : Ropeway) : Option (Ropeway) :=
  (grd (([] : List Slot).length + a0.2.1.length ≤ 140737488355328 / 24 ∧ ([] : List Slot).length + a0.2.1.length ≤ 140737488355328) ((some (a0.1, (([] : List Slot) ++ a0.2.1), a0.2.2.1, a0.2.2.2.1, a0.2.2.2.2.1, ()))))
def spec_l25Own.res (_ : Ropeway) (y : Ropeway) : AV := (.agg [(.v (.int .i64 y.1)), (.own 0), (.v (.int .i64 y.2.2.1)), (.v (.int .i64 y.2.2.2.1)), (.v (.int .i64 y.2.2.2.2.1))])
def spec_l25Own.out (_ : Ropeway) (y : Ropeway) : List (Option LB) := [some (.arr 96 ty_Slot y.2.1)]
def spec_l25Own.S (ar : List AV) (h : List (Option LB)) (r : AV) (h1 : List (Option LB)) : Prop := ∃ a0 y, spec_l25Own a0 = some y ∧ leL ar [(.agg [(.v (.int .i64 a0.1)), (.tree ty_Slot a0.2.1), (.v (.int .i64 a0.2.2.1)), (.v (.int .i64 a0.2.2.2.1)), (.v (.int .i64 a0.2.2.2.2.1))])] ∧ leH h [] ∧ r = spec_l25Own.res a0 y ∧ h1 = spec_l25Own.out a0 y
theorem spec_l25Own.call {ar h a0 y} (H : spec_l25Own a0 = some y) (h0 : leLk ar [(.agg [(.v (.int .i64 a0.1)), (.tree ty_Slot a0.2.1), (.v (.int .i64 a0.2.2.1)), (.v (.int .i64 a0.2.2.2.1)), (.v (.int .i64 a0.2.2.2.2.1))])] (leHk h [])) : spec_l25Own.S ar h (spec_l25Own.res a0 y) (spec_l25Own.out a0 y) := ⟨a0, y, H, (args_ok h0).1, (args_ok h0).2, rfl, rfl⟩
theorem spec_l25Own.spec (a0 y) (H : spec_l25Own a0 = some y) : Spec Tryz.prog 75 [(.agg [(.v (.int .i64 a0.1)), (.tree ty_Slot a0.2.1), (.v (.int .i64 a0.2.2.1)), (.v (.int .i64 a0.2.2.2.1)), (.v (.int .i64 a0.2.2.2.2.1))])] [] (spec_l25Own.res a0 y) (spec_l25Own.out a0 y) := by
  refine spec_intro (G8_ok.at tok []) (ct := []) Tryz.func75 rfl (by kernel_rfl) (by kernel_rfl) rfl ?_
  repeat' first
    | ((with_reducible refine eqg ?_); exact rfl)
    | ((with_reducible refine KOb.mk ?_); kernel_rfl)
    | ((with_reducible intro h); (repeat first | replace H := grd_k H | replace H := out_step H ‹_›); first | replace H := cond_t h H | replace H := cond_f h H | exact absurd h (by decide) | skip)
    | ((with_reducible refine Ob.mk ?_); first | (with_reducible rfl) | (first | ((repeat (first | (with_reducible exact grd_p H) | replace H := grd_k H | replace H := out_step H ‹_›)); done) | rfl | ((repeat (first | exact grd_p H | (have hp := grd_p H; exact hp) | replace H := grd_k H | replace H := out_step H ‹_› | (replace H := bind_some H; obtain ⟨_, _, H⟩ := H))); done) | (repeat (first | exact grd_p H | replace H := grd_k H | replace H := out_step H ‹_›))))
    | (with_reducible exact True.intro)
    | ((conv => whnf); first
        | (with_reducible refine And.intro ?_ ?_)
        | (with_reducible exact True.intro)
        | (with_reducible refine (?_ : Ob _))
        | ((with_reducible refine fin_mk ?_); (repeat first | replace H := grd_k H | replace H := out_step H ‹_›); have H := Option.some.inj H; subst H))
    | constructor
def G10 : Env := G8.add 75 [] spec_l25Own.S
theorem G10_ok : EnvOk Tryz.prog G10 := G8_ok.add ent_75 fun ar h r h1 ⟨a0, y, hy, e1, e2, e3, e4⟩ => by
  subst e3 e4; exact (spec_l25Own.spec a0 y hy).le e1 e2
attribute [local irreducible] spec_l25Own

noncomputable def spec_l28Own (a0 : Console) : Option (Console) :=
  ((spec_l25Own (a0.1.1, a0.1.2.1, a0.1.2.2.1, a0.1.2.2.2.1, a0.1.2.2.2.2.1, ())).bind fun y1 => (some ((y1.1, y1.2.1, y1.2.2.1, y1.2.2.2.1, y1.2.2.2.2.1, ()), (a0.2.1.1, a0.2.1.2.1, a0.2.1.2.2.1, ()), ())))
def spec_l28Own.res (_ : Console) (y : Console) : AV := (.agg [(.v (.int .i64 y.1.1)), (.own 0), (.v (.int .i64 y.1.2.2.1)), (.v (.int .i64 y.1.2.2.2.1)), (.v (.int .i64 y.1.2.2.2.2.1)), (.v (.string y.2.1.1)), (.v (.string y.2.1.2.1)), (.v (.int .i64 y.2.1.2.2.1))])
def spec_l28Own.out (_ : Console) (y : Console) : List (Option LB) := [some (.arr 96 ty_Slot y.1.2.1)]
def spec_l28Own.S (ar : List AV) (h : List (Option LB)) (r : AV) (h1 : List (Option LB)) : Prop := ∃ a0 y, spec_l28Own a0 = some y ∧ leL ar [(.agg [(.v (.int .i64 a0.1.1)), (.tree ty_Slot a0.1.2.1), (.v (.int .i64 a0.1.2.2.1)), (.v (.int .i64 a0.1.2.2.2.1)), (.v (.int .i64 a0.1.2.2.2.2.1)), (.v (.string a0.2.1.1)), (.v (.string a0.2.1.2.1)), (.v (.int .i64 a0.2.1.2.2.1))])] ∧ leH h [] ∧ r = spec_l28Own.res a0 y ∧ h1 = spec_l28Own.out a0 y
theorem spec_l28Own.call {ar h a0 y} (H : spec_l28Own a0 = some y) (h0 : leLk ar [(.agg [(.v (.int .i64 a0.1.1)), (.tree ty_Slot a0.1.2.1), (.v (.int .i64 a0.1.2.2.1)), (.v (.int .i64 a0.1.2.2.2.1)), (.v (.int .i64 a0.1.2.2.2.2.1)), (.v (.string a0.2.1.1)), (.v (.string a0.2.1.2.1)), (.v (.int .i64 a0.2.1.2.2.1))])] (leHk h [])) : spec_l28Own.S ar h (spec_l28Own.res a0 y) (spec_l28Own.out a0 y) := ⟨a0, y, H, (args_ok h0).1, (args_ok h0).2, rfl, rfl⟩
theorem spec_l28Own.spec (a0 y) (H : spec_l28Own a0 = some y) : Spec Tryz.prog 39 [(.agg [(.v (.int .i64 a0.1.1)), (.tree ty_Slot a0.1.2.1), (.v (.int .i64 a0.1.2.2.1)), (.v (.int .i64 a0.1.2.2.2.1)), (.v (.int .i64 a0.1.2.2.2.2.1)), (.v (.string a0.2.1.1)), (.v (.string a0.2.1.2.1)), (.v (.int .i64 a0.2.1.2.2.1))])] [] (spec_l28Own.res a0 y) (spec_l28Own.out a0 y) := by
  refine spec_intro (G10_ok.at tok []) (ct := []) Tryz.func39 rfl (by kernel_rfl) (by kernel_rfl) rfl ?_
  repeat' first
    | ((with_reducible refine eqg ?_); exact rfl)
    | ((with_reducible refine KOb.mk ?_); kernel_rfl)
    | ((with_reducible intro h); (repeat first | replace H := grd_k H | replace H := out_step H ‹_›); first | replace H := cond_t h H | replace H := cond_f h H | exact absurd h (by decide) | skip)
    | ((with_reducible refine Ob.mk ?_); first | (with_reducible rfl) | (first | ((repeat (first | (with_reducible exact grd_p H) | replace H := grd_k H | replace H := out_step H ‹_›)); done) | rfl | ((repeat (first | exact grd_p H | (have hp := grd_p H; exact hp) | replace H := grd_k H | replace H := out_step H ‹_› | (replace H := bind_some H; obtain ⟨_, _, H⟩ := H))); done) | (repeat (first | exact grd_p H | replace H := grd_k H | replace H := out_step H ‹_›))))
    | (with_reducible exact True.intro)
    | ((conv => whnf); first
        | (with_reducible refine And.intro ?_ ?_)
        | (with_reducible exact True.intro)
        | (with_reducible refine (?_ : Ob _))
        | ((with_reducible refine CallW.mk ?_); (repeat first | replace H := grd_k H | replace H := out_step H ‹_›); replace H := bind_some H; obtain ⟨y, hy, H⟩ := H; first | ((with_reducible have hz : spec_l25Own _ = some y := hy); clear hz; refine ⟨_, _, spec_l25Own.call hy ?_, rfl, rfl, ?_⟩))
        | ((with_reducible refine fin_mk ?_); (repeat first | replace H := grd_k H | replace H := out_step H ‹_›); have H := Option.some.inj H; subst H))
    | constructor
def G11 : Env := G10.add 39 [] spec_l28Own.S
theorem G11_ok : EnvOk Tryz.prog G11 := G10_ok.add ent_39 fun ar h r h1 ⟨a0, y, hy, e1, e2, e3, e4⟩ => by
  subst e3 e4; exact (spec_l28Own.spec a0 y hy).le e1 e2
attribute [local irreducible] spec_l28Own

noncomputable def spec_l1In (a0 : Int) (a1 : Int) (a2 : Int) : Option (Bool) :=
  (cond (decide (a1 ≤ a0)) ((some (decide (a0 ≤ a2)))) ((some false)))
def spec_l1In.res (_ : Int) (_ : Int) (_ : Int) (y : Bool) : AV := (.bl y)
def spec_l1In.out (_ : Int) (_ : Int) (_ : Int) (_ : Bool) : List (Option LB) := []
def spec_l1In.S (ar : List AV) (h : List (Option LB)) (r : AV) (h1 : List (Option LB)) : Prop := ∃ a0 a1 a2 y, spec_l1In a0 a1 a2 = some y ∧ leL ar [(.v (.int .i64 a0)), (.v (.int .i64 a1)), (.v (.int .i64 a2))] ∧ leH h [] ∧ r = spec_l1In.res a0 a1 a2 y ∧ h1 = spec_l1In.out a0 a1 a2 y
theorem spec_l1In.call {ar h a0 a1 a2 y} (H : spec_l1In a0 a1 a2 = some y) (h0 : leLk ar [(.v (.int .i64 a0)), (.v (.int .i64 a1)), (.v (.int .i64 a2))] (leHk h [])) : spec_l1In.S ar h (spec_l1In.res a0 a1 a2 y) (spec_l1In.out a0 a1 a2 y) := ⟨a0, a1, a2, y, H, (args_ok h0).1, (args_ok h0).2, rfl, rfl⟩
theorem spec_l1In.spec (a0 a1 a2 y) (H : spec_l1In a0 a1 a2 = some y) : Spec Tryz.prog 108 [(.v (.int .i64 a0)), (.v (.int .i64 a1)), (.v (.int .i64 a2))] [] (spec_l1In.res a0 a1 a2 y) (spec_l1In.out a0 a1 a2 y) := by
  refine spec_intro (G11_ok.at tok []) (ct := []) Tryz.func108 rfl (by kernel_rfl) (by kernel_rfl) rfl ?_
  repeat' first
    | ((with_reducible refine eqg ?_); exact rfl)
    | ((with_reducible refine KOb.mk ?_); kernel_rfl)
    | ((with_reducible intro h); (repeat first | replace H := grd_k H | replace H := out_step H ‹_›); first | replace H := cond_t h H | replace H := cond_f h H | exact absurd h (by decide) | skip)
    | ((with_reducible refine Ob.mk ?_); first | (with_reducible rfl) | (first | ((repeat (first | (with_reducible exact grd_p H) | replace H := grd_k H | replace H := out_step H ‹_›)); done) | rfl | ((repeat (first | exact grd_p H | (have hp := grd_p H; exact hp) | replace H := grd_k H | replace H := out_step H ‹_› | (replace H := bind_some H; obtain ⟨_, _, H⟩ := H))); done) | (repeat (first | exact grd_p H | replace H := grd_k H | replace H := out_step H ‹_›))))
    | (with_reducible exact True.intro)
    | ((conv => whnf); first
        | (with_reducible refine And.intro ?_ ?_)
        | (with_reducible exact True.intro)
        | (with_reducible refine (?_ : Ob _))
        | ((with_reducible refine fin_mk ?_); (repeat first | replace H := grd_k H | replace H := out_step H ‹_›); have H := Option.some.inj H; subst H))
    | constructor
def G12 : Env := G11.add 108 [] spec_l1In.S
theorem G12_ok : EnvOk Tryz.prog G12 := G11_ok.add ent_108 fun ar h r h1 ⟨a0, a1, a2, y, hy, e1, e2, e3, e4⟩ => by
  subst e3 e4; exact (spec_l1In.spec a0 a1 a2 y hy).le e1 e2
attribute [local irreducible] spec_l1In

end Go.Proofs.YtaobinhdnklojaaGreatDoor
namespace Go.Proofs.YtaobinhdnklojaaGreatDoor
open Go.RowKit
set_option maxHeartbeats 100000000
set_option maxRecDepth 100000
attribute [local irreducible] Ob loopwp Sub Spec Fin Again CallW CutC KOb iter

attribute [local irreducible] spec_l1In

noncomputable def spec_l25Slot_loop1 (a0 : Ropeway) (a1 : Int) (v4 : Int) : Option (Lp (Int) ((Unit) ⊕ (Unit))) :=
  (cond (decide (v4 < a1)) (grd (0 ≤ v4 ∧ v4 < (a0.2.1.length : Int)) (cond (decide (((a0.2.1.getD v4.toNat d_Slot).1) = ((a0.2.1.getD a1.toNat d_Slot).1))) ((some (.out (Sum.inl ())))) (some (.go (w64 (v4 + (1 : Int))))))) ((some (.out (Sum.inr ())))))
noncomputable def spec_l25Slot (a0 : Ropeway) (a1 : Int) : Option (Bool) :=
  (grd (0 ≤ a1 ∧ a1 < (a0.2.1.length : Int)) ((spec_l1In ((a0.2.1.getD a1.toNat d_Slot).1) (0 : Int) (20 : Int)).bind fun y1 => (cond (!y1) ((some false)) ((spec_l1In ((a0.2.1.getD a1.toNat d_Slot).2.2.1) (0 : Int) (8 : Int)).bind fun y2 => (cond (!y2) ((some false)) (cond (decide (((a0.2.1.getD a1.toNat d_Slot).1) = (0 : Int))) (cond (!((a0.2.1.getD a1.toNat d_Slot).2.1)) ((some (decide (((a0.2.1.getD a1.toNat d_Slot).2.2.1) = (0 : Int))))) ((some false))) ((iter (fun s => spec_l25Slot_loop1 a0 a1 s) (0 : Int)).bind (Sum.elim (fun _ => (some false)) (fun _ => (grd ((a0.2.1.length : Int) ≠ 0) (grd (0 ≤ (Int.tmod (w64 (a1 + (1 : Int))) (a0.2.1.length : Int)) ∧ (Int.tmod (w64 (a1 + (1 : Int))) (a0.2.1.length : Int)) < (a0.2.1.length : Int)) (cond (!decide (((a0.2.1.getD ((Int.tmod (w64 (a1 + (1 : Int))) (a0.2.1.length : Int)).toNat) d_Slot).1) = (0 : Int))) ((some false)) (cond (!((a0.2.1.getD a1.toNat d_Slot).2.1)) ((some true)) (cond (decide (a1 = (0 : Int))) ((some true)) (grd ((2 : Int) ≠ 0) ((some (decide (a1 = (w64 (Int.tdiv (a0.2.1.length : Int) (2 : Int))))))))))))))))))))))
def spec_l25Slot.res (_ : Ropeway) (_ : Int) (y : Bool) : AV := (.bl y)
def spec_l25Slot.out (_ : Ropeway) (_ : Int) (_ : Bool) : List (Option LB) := []
def spec_l25Slot.S (ar : List AV) (h : List (Option LB)) (r : AV) (h1 : List (Option LB)) : Prop := ∃ a0 a1 y, spec_l25Slot a0 a1 = some y ∧ leL ar [(.agg [(.v (.int .i64 a0.1)), (.tree ty_Slot a0.2.1), (.v (.int .i64 a0.2.2.1)), (.v (.int .i64 a0.2.2.2.1)), (.v (.int .i64 a0.2.2.2.2.1))]), (.v (.int .i64 a1))] ∧ leH h [] ∧ r = spec_l25Slot.res a0 a1 y ∧ h1 = spec_l25Slot.out a0 a1 y
theorem spec_l25Slot.call {ar h a0 a1 y} (H : spec_l25Slot a0 a1 = some y) (h0 : leLk ar [(.agg [(.v (.int .i64 a0.1)), (.tree ty_Slot a0.2.1), (.v (.int .i64 a0.2.2.1)), (.v (.int .i64 a0.2.2.2.1)), (.v (.int .i64 a0.2.2.2.2.1))]), (.v (.int .i64 a1))] (leHk h [])) : spec_l25Slot.S ar h (spec_l25Slot.res a0 a1 y) (spec_l25Slot.out a0 a1 y) := ⟨a0, a1, y, H, (args_ok h0).1, (args_ok h0).2, rfl, rfl⟩
theorem spec_l25Slot.spec (a0 a1 y) (H : spec_l25Slot a0 a1 = some y) : Spec Tryz.prog 113 [(.agg [(.v (.int .i64 a0.1)), (.tree ty_Slot a0.2.1), (.v (.int .i64 a0.2.2.1)), (.v (.int .i64 a0.2.2.2.1)), (.v (.int .i64 a0.2.2.2.2.1))]), (.v (.int .i64 a1))] [] (spec_l25Slot.res a0 a1 y) (spec_l25Slot.out a0 a1 y) := by
  refine spec_intro (G12_ok.at tok []) (ct := [(3, some [1, 2, 5, 21, 29, 30, 31, 63, 64, 67, 68, 69, 70, 71, 72]), (7, some [1, 2, 5, 6, 63, 64, 67, 68, 69, 70, 71, 72]), (12, some [1, 2, 5, 58, 63, 64, 67, 68, 69, 70, 71, 72])]) Tryz.func113 rfl (by kernel_rfl) (by kernel_rfl) rfl ?_
  repeat' first
    | ((with_reducible refine eqg ?_); exact rfl)
    | ((with_reducible refine KOb.mk ?_); kernel_rfl)
    | ((with_reducible intro h); (repeat first | replace H := grd_k H | replace H := out_step H ‹_›); first | replace H := cond_t h H | replace H := cond_f h H | exact absurd h (by decide) | skip)
    | ((with_reducible refine Ob.mk ?_); first | (with_reducible rfl) | (first | ((repeat (first | (with_reducible exact grd_p H) | replace H := grd_k H | replace H := out_step H ‹_›)); done) | rfl | ((repeat (first | exact grd_p H | (have hp := grd_p H; exact hp) | replace H := grd_k H | replace H := out_step H ‹_› | (replace H := bind_some H; obtain ⟨_, _, H⟩ := H))); done) | (repeat (first | exact grd_p H | replace H := grd_k H | replace H := out_step H ‹_›))))
    | (with_reducible exact True.intro)
    | ((conv => whnf); first
        | (with_reducible refine And.intro ?_ ?_)
        | (with_reducible exact True.intro)
        | (with_reducible refine (?_ : Ob _))
        | ((with_reducible refine CallW.mk ?_); (repeat first | replace H := grd_k H | replace H := out_step H ‹_›); replace H := bind_some H; obtain ⟨y, hy, H⟩ := H; first | ((with_reducible have hz : spec_l1In _ _ _ = some y := hy); clear hz; refine ⟨_, _, spec_l1In.call hy ?_, rfl, rfl, ?_⟩))
        | ((repeat first | replace H := grd_k H | replace H := out_step H ‹_›); refine loop_iter (G12_ok.at tok []) (ct := [(3, some [1, 2, 5, 21, 29, 30, 31, 63, 64, 67, 68, 69, 70, 71, 72]), (7, some [1, 2, 5, 6, 63, 64, 67, 68, 69, 70, 71, 72]), (12, some [1, 2, 5, 58, 63, 64, 67, 68, 69, 70, 71, 72])]) (F := (fun s1 : Int => ⟨sl [(1, (.v (.int .i64 a1))), (2, (.loc 0 0 0)), (5, (.loc 1 0 0)), (6, (.v (.int .i64 s1)))], [some (.box 38 [(.v (.int .i64 a0.1)), (.tree ty_Slot a0.2.1), (.v (.int .i64 a0.2.2.1)), (.v (.int .i64 a0.2.2.2.1)), (.v (.int .i64 a0.2.2.2.2.1))]), some (.box 96 [(.v (.int .i64 ((a0.2.1.getD a1.toNat d_Slot).1))), (.bl ((a0.2.1.getD a1.toNat d_Slot).2.1)), (.v (.int .i64 ((a0.2.1.getD a1.toNat d_Slot).2.2.1)))])]⟩)) (step := (fun s : Int => spec_l25Slot_loop1 _ _ s)) _ H (by kernel_rfl) (sub_auto ?_) ?_; rotate_left; (intro s1 r v hr H); rotate_right)
        | ((repeat first | replace H := grd_k H | replace H := out_step H ‹_›); refine again_step H (by assumption) (sub_auto ?_))
        | ((with_reducible refine fin_mk ?_); (repeat first | replace H := grd_k H | replace H := out_step H ‹_›); have H := Option.some.inj H; subst H))
    | constructor
def G13 : Env := G12.add 113 [] spec_l25Slot.S
theorem G13_ok : EnvOk Tryz.prog G13 := G12_ok.add ent_113 fun ar h r h1 ⟨a0, a1, y, hy, e1, e2, e3, e4⟩ => by
  subst e3 e4; exact (spec_l25Slot.spec a0 a1 y hy).le e1 e2
attribute [local irreducible] spec_l25Slot

noncomputable def spec_l25Good_loop1 (a0 : Ropeway) (v9 : Int) : Option (Lp (Int) ((Unit) ⊕ (Unit))) :=
  (cond (decide (v9 < (a0.2.1.length : Int))) ((spec_l25Slot (a0.1, a0.2.1, a0.2.2.1, a0.2.2.2.1, a0.2.2.2.2.1, ()) v9).bind fun y10 => (cond (!y10) ((some (.out (Sum.inl ())))) (some (.go (w64 (v9 + (1 : Int))))))) ((some (.out (Sum.inr ())))))
noncomputable def spec_l25Good (a0 : Ropeway) : Option (Bool) :=
  ((spec_l1In a0.1 (0 : Int) (3 : Int)).bind fun y1 => (cond (!y1) ((some false)) ((spec_l1In (a0.2.1.length : Int) (4 : Int) (10 : Int)).bind fun y2 => (cond (!y2) ((some false)) (grd ((2 : Int) ≠ 0) (cond (!decide ((Int.tmod (a0.2.1.length : Int) (2 : Int)) = (0 : Int))) ((some false)) ((spec_l1In a0.2.2.1 (0 : Int) (500 : Int)).bind fun y3 => (cond (!y3) ((some false)) ((spec_l1In a0.2.2.2.1 (0 : Int) (500 : Int)).bind fun y4 => (cond (!y4) ((some false)) ((spec_l1In a0.2.2.2.2.1 (0 : Int) (500 : Int)).bind fun y5 => (cond (!y5) ((some false)) ((iter (fun s => spec_l25Good_loop1 a0 s) (0 : Int)).bind (Sum.elim (fun _ => (some false)) (fun _ => (some true))))))))))))))))
def spec_l25Good.res (_ : Ropeway) (y : Bool) : AV := (.bl y)
def spec_l25Good.out (_ : Ropeway) (_ : Bool) : List (Option LB) := []
def spec_l25Good.S (ar : List AV) (h : List (Option LB)) (r : AV) (h1 : List (Option LB)) : Prop := ∃ a0 y, spec_l25Good a0 = some y ∧ leL ar [(.agg [(.v (.int .i64 a0.1)), (.tree ty_Slot a0.2.1), (.v (.int .i64 a0.2.2.1)), (.v (.int .i64 a0.2.2.2.1)), (.v (.int .i64 a0.2.2.2.2.1))])] ∧ leH h [] ∧ r = spec_l25Good.res a0 y ∧ h1 = spec_l25Good.out a0 y
theorem spec_l25Good.call {ar h a0 y} (H : spec_l25Good a0 = some y) (h0 : leLk ar [(.agg [(.v (.int .i64 a0.1)), (.tree ty_Slot a0.2.1), (.v (.int .i64 a0.2.2.1)), (.v (.int .i64 a0.2.2.2.1)), (.v (.int .i64 a0.2.2.2.2.1))])] (leHk h [])) : spec_l25Good.S ar h (spec_l25Good.res a0 y) (spec_l25Good.out a0 y) := ⟨a0, y, H, (args_ok h0).1, (args_ok h0).2, rfl, rfl⟩
theorem spec_l25Good.spec (a0 y) (H : spec_l25Good a0 = some y) : Spec Tryz.prog 76 [(.agg [(.v (.int .i64 a0.1)), (.tree ty_Slot a0.2.1), (.v (.int .i64 a0.2.2.1)), (.v (.int .i64 a0.2.2.2.1)), (.v (.int .i64 a0.2.2.2.2.1))])] [] (spec_l25Good.res a0 y) (spec_l25Good.out a0 y) := by
  refine spec_intro (G13_ok.at tok []) (ct := [(3, some [1, 3, 39])]) Tryz.func76 rfl (by kernel_rfl) (by kernel_rfl) rfl ?_
  repeat' first
    | ((with_reducible refine eqg ?_); exact rfl)
    | ((with_reducible refine KOb.mk ?_); kernel_rfl)
    | ((with_reducible intro h); (repeat first | replace H := grd_k H | replace H := out_step H ‹_›); first | replace H := cond_t h H | replace H := cond_f h H | exact absurd h (by decide) | skip)
    | ((with_reducible refine Ob.mk ?_); first | (with_reducible rfl) | (first | ((repeat (first | (with_reducible exact grd_p H) | replace H := grd_k H | replace H := out_step H ‹_›)); done) | rfl | ((repeat (first | exact grd_p H | (have hp := grd_p H; exact hp) | replace H := grd_k H | replace H := out_step H ‹_› | (replace H := bind_some H; obtain ⟨_, _, H⟩ := H))); done) | (repeat (first | exact grd_p H | replace H := grd_k H | replace H := out_step H ‹_›))))
    | (with_reducible exact True.intro)
    | ((conv => whnf); first
        | (with_reducible refine And.intro ?_ ?_)
        | (with_reducible exact True.intro)
        | (with_reducible refine (?_ : Ob _))
        | ((with_reducible refine CallW.mk ?_); (repeat first | replace H := grd_k H | replace H := out_step H ‹_›); replace H := bind_some H; obtain ⟨y, hy, H⟩ := H; first | ((with_reducible have hz : spec_l1In _ _ _ = some y := hy); clear hz; refine ⟨_, _, spec_l1In.call hy ?_, rfl, rfl, ?_⟩) | ((with_reducible have hz : spec_l25Slot _ _ = some y := hy); clear hz; refine ⟨_, _, spec_l25Slot.call hy ?_, rfl, rfl, ?_⟩))
        | ((repeat first | replace H := grd_k H | replace H := out_step H ‹_›); refine loop_iter (G13_ok.at tok []) (ct := [(3, some [1, 3, 39])]) (F := (fun s1 : Int => ⟨sl [(1, (.loc 0 0 0)), (3, (.v (.int .i64 (a0.2.1.length : Int)))), (4, (.v (.int .i64 s1)))], [some (.box 38 [(.v (.int .i64 a0.1)), (.tree ty_Slot a0.2.1), (.v (.int .i64 a0.2.2.1)), (.v (.int .i64 a0.2.2.2.1)), (.v (.int .i64 a0.2.2.2.2.1))])]⟩)) (step := (fun s : Int => spec_l25Good_loop1 _ s)) _ H (by kernel_rfl) (sub_auto ?_) ?_; rotate_left; (intro s1 r v hr H); rotate_right)
        | ((repeat first | replace H := grd_k H | replace H := out_step H ‹_›); refine again_step H (by assumption) (sub_auto ?_))
        | ((with_reducible refine fin_mk ?_); (repeat first | replace H := grd_k H | replace H := out_step H ‹_›); have H := Option.some.inj H; subst H))
    | constructor
def G14 : Env := G13.add 76 [] spec_l25Good.S
theorem G14_ok : EnvOk Tryz.prog G14 := G13_ok.add ent_76 fun ar h r h1 ⟨a0, y, hy, e1, e2, e3, e4⟩ => by
  subst e3 e4; exact (spec_l25Good.spec a0 y hy).le e1 e2
attribute [local irreducible] spec_l25Good

noncomputable def spec_l1Split_loop1 (a0 : ByteArray) (a1 : Int) (v4 : Int) (v5 : Int) (v6 : (List ByteArray)) : Option (Lp (Int × Int × (List ByteArray)) ((Int × (List ByteArray)))) :=
  (cond (decide (v5 < (a0.size : Int))) (grd (0 ≤ v5 ∧ v5 < (a0.size : Int)) (cond (decide ((bAt a0 v5) = a1)) (grd (0 ≤ v4 ∧ v4 ≤ v5 ∧ v5 ≤ (a0.size : Int)) (grd (v6.length + [(bsub a0 v4 v5)].length ≤ 140737488355328 / 16 ∧ v6.length + [(bsub a0 v4 v5)].length ≤ 140737488355328) (some (.go ((w64 (v5 + (1 : Int))), (w64 (v5 + (1 : Int))), (v6 ++ [(bsub a0 v4 v5)])))))) (some (.go (v4, (w64 (v5 + (1 : Int))), v6))))) ((some (.out (v4, v6)))))
noncomputable def spec_l1Split (a0 : ByteArray) (a1 : Int) : Option ((List ByteArray)) :=
  ((iter (fun s => spec_l1Split_loop1 a0 a1 s.1 s.2.1 s.2.2) ((0 : Int), (0 : Int), ([] : List ByteArray))).bind (fun r7 => (grd (0 ≤ r7.1 ∧ r7.1 ≤ (a0.size : Int) ∧ (a0.size : Int) ≤ (a0.size : Int)) (grd (r7.2.length + [(bsub a0 r7.1 (a0.size : Int))].length ≤ 140737488355328 / 16 ∧ r7.2.length + [(bsub a0 r7.1 (a0.size : Int))].length ≤ 140737488355328) ((some (r7.2 ++ [(bsub a0 r7.1 (a0.size : Int))])))))))
def spec_l1Split.res (_ : ByteArray) (_ : Int) (_ : (List ByteArray)) : AV := (.own 0)
def spec_l1Split.out (_ : ByteArray) (_ : Int) (y : (List ByteArray)) : List (Option LB) := [some (.arr 9 .str y)]
def spec_l1Split.S (ar : List AV) (h : List (Option LB)) (r : AV) (h1 : List (Option LB)) : Prop := ∃ a0 a1 y, spec_l1Split a0 a1 = some y ∧ leL ar [(.v (.string a0)), (.v (.int .u8 a1))] ∧ leH h [] ∧ r = spec_l1Split.res a0 a1 y ∧ h1 = spec_l1Split.out a0 a1 y
theorem spec_l1Split.call {ar h a0 a1 y} (H : spec_l1Split a0 a1 = some y) (h0 : leLk ar [(.v (.string a0)), (.v (.int .u8 a1))] (leHk h [])) : spec_l1Split.S ar h (spec_l1Split.res a0 a1 y) (spec_l1Split.out a0 a1 y) := ⟨a0, a1, y, H, (args_ok h0).1, (args_ok h0).2, rfl, rfl⟩
theorem spec_l1Split.spec (a0 a1 y) (H : spec_l1Split a0 a1 = some y) : Spec Tryz.prog 54 [(.v (.string a0)), (.v (.int .u8 a1))] [] (spec_l1Split.res a0 a1 y) (spec_l1Split.out a0 a1 y) := by
  refine spec_intro (G14_ok.at tok []) (ct := [(8, some [0, 1, 5, 7])]) Tryz.func54 rfl (by kernel_rfl) (by kernel_rfl) rfl ?_
  repeat' first
    | ((with_reducible refine eqg ?_); exact rfl)
    | ((with_reducible refine KOb.mk ?_); kernel_rfl)
    | ((with_reducible intro h); (repeat first | replace H := grd_k H | replace H := out_step H ‹_›); first | replace H := cond_t h H | replace H := cond_f h H | exact absurd h (by decide) | skip)
    | ((with_reducible refine Ob.mk ?_); first | (with_reducible rfl) | (first | ((repeat (first | (with_reducible exact grd_p H) | replace H := grd_k H | replace H := out_step H ‹_›)); done) | rfl | ((repeat (first | exact grd_p H | (have hp := grd_p H; exact hp) | replace H := grd_k H | replace H := out_step H ‹_› | (replace H := bind_some H; obtain ⟨_, _, H⟩ := H))); done) | (repeat (first | exact grd_p H | replace H := grd_k H | replace H := out_step H ‹_›))))
    | (with_reducible exact True.intro)
    | ((conv => whnf); first
        | (with_reducible refine And.intro ?_ ?_)
        | (with_reducible exact True.intro)
        | (with_reducible refine (?_ : Ob _))
        | ((repeat first | replace H := grd_k H | replace H := out_step H ‹_›); refine loop_iter (G14_ok.at tok []) (ct := [(8, some [0, 1, 5, 7])]) (F := (fun s1 : Int × Int × (List ByteArray) => ⟨sl [(0, (.v (.string a0))), (1, (.v (.int .u8 a1))), (5, (.own 0)), (6, (.v (.int .i64 s1.1))), (7, (.v (.int .i64 s1.2.1)))], [some (.arr 9 .str s1.2.2)]⟩)) (step := (fun s : Int × Int × (List ByteArray) => spec_l1Split_loop1 _ _ s.1 s.2.1 s.2.2)) _ H (by kernel_rfl) (sub_auto ?_) ?_; rotate_left; (intro s1 r v hr H); rotate_right)
        | ((repeat first | replace H := grd_k H | replace H := out_step H ‹_›); refine again_step H (by assumption) (sub_auto ?_))
        | ((with_reducible refine fin_mk ?_); (repeat first | replace H := grd_k H | replace H := out_step H ‹_›); have H := Option.some.inj H; subst H))
    | constructor
def G15 : Env := G14.add 54 [] spec_l1Split.S
theorem G15_ok : EnvOk Tryz.prog G15 := G14_ok.add ent_54 fun ar h r h1 ⟨a0, a1, y, hy, e1, e2, e3, e4⟩ => by
  subst e3 e4; exact (spec_l1Split.spec a0 a1 y hy).le e1 e2
attribute [local irreducible] spec_l1Split

noncomputable def spec_l1Num_f : Nat → Int → Option (ByteArray)
  | 0, _ => none
  | k + 1, a0 => (cond (decide (a0 < (0 : Int))) ((spec_l1Num_f k (w64 (0 - a0))).bind fun y1 => (grd ((ByteArray.mk #[45]).size + y1.size ≤ 9223372036854775807) ((some ((ByteArray.mk #[45]) ++ y1))))) (cond (decide (a0 < (10 : Int))) (grd (0 ≤ a0 ∧ a0 ≤ (w64 (a0 + (1 : Int))) ∧ (w64 (a0 + (1 : Int))) ≤ ((ByteArray.mk #[48, 49, 50, 51, 52, 53, 54, 55, 56, 57]).size : Int)) ((some (bsub (ByteArray.mk #[48, 49, 50, 51, 52, 53, 54, 55, 56, 57]) a0 (w64 (a0 + (1 : Int))))))) (grd ((10 : Int) ≠ 0) ((spec_l1Num_f k (w64 (Int.tdiv a0 (10 : Int)))).bind fun y2 => (grd ((10 : Int) ≠ 0) (grd ((10 : Int) ≠ 0) (grd (0 ≤ (Int.tmod a0 (10 : Int)) ∧ (Int.tmod a0 (10 : Int)) ≤ (w64 ((Int.tmod a0 (10 : Int)) + (1 : Int))) ∧ (w64 ((Int.tmod a0 (10 : Int)) + (1 : Int))) ≤ ((ByteArray.mk #[48, 49, 50, 51, 52, 53, 54, 55, 56, 57]).size : Int)) (grd (y2.size + (bsub (ByteArray.mk #[48, 49, 50, 51, 52, 53, 54, 55, 56, 57]) (Int.tmod a0 (10 : Int)) (w64 ((Int.tmod a0 (10 : Int)) + (1 : Int)))).size ≤ 9223372036854775807) ((some (y2 ++ (bsub (ByteArray.mk #[48, 49, 50, 51, 52, 53, 54, 55, 56, 57]) (Int.tmod a0 (10 : Int)) (w64 ((Int.tmod a0 (10 : Int)) + (1 : Int)))))))))))))))
theorem spec_l1Num_f_succ (k : Nat) (a0 : Int) : spec_l1Num_f (k + 1) a0 = (cond (decide (a0 < (0 : Int))) ((spec_l1Num_f k (w64 (0 - a0))).bind fun y1 => (grd ((ByteArray.mk #[45]).size + y1.size ≤ 9223372036854775807) ((some ((ByteArray.mk #[45]) ++ y1))))) (cond (decide (a0 < (10 : Int))) (grd (0 ≤ a0 ∧ a0 ≤ (w64 (a0 + (1 : Int))) ∧ (w64 (a0 + (1 : Int))) ≤ ((ByteArray.mk #[48, 49, 50, 51, 52, 53, 54, 55, 56, 57]).size : Int)) ((some (bsub (ByteArray.mk #[48, 49, 50, 51, 52, 53, 54, 55, 56, 57]) a0 (w64 (a0 + (1 : Int))))))) (grd ((10 : Int) ≠ 0) ((spec_l1Num_f k (w64 (Int.tdiv a0 (10 : Int)))).bind fun y2 => (grd ((10 : Int) ≠ 0) (grd ((10 : Int) ≠ 0) (grd (0 ≤ (Int.tmod a0 (10 : Int)) ∧ (Int.tmod a0 (10 : Int)) ≤ (w64 ((Int.tmod a0 (10 : Int)) + (1 : Int))) ∧ (w64 ((Int.tmod a0 (10 : Int)) + (1 : Int))) ≤ ((ByteArray.mk #[48, 49, 50, 51, 52, 53, 54, 55, 56, 57]).size : Int)) (grd (y2.size + (bsub (ByteArray.mk #[48, 49, 50, 51, 52, 53, 54, 55, 56, 57]) (Int.tmod a0 (10 : Int)) (w64 ((Int.tmod a0 (10 : Int)) + (1 : Int)))).size ≤ 9223372036854775807) ((some (y2 ++ (bsub (ByteArray.mk #[48, 49, 50, 51, 52, 53, 54, 55, 56, 57]) (Int.tmod a0 (10 : Int)) (w64 ((Int.tmod a0 (10 : Int)) + (1 : Int))))))))))))))) := rfl
attribute [local irreducible] spec_l1Num_f
noncomputable def spec_l1Num (a0 : Int) : Option (ByteArray) := spec_l1Num_f 64 a0
def spec_l1Num.res (_ : Int) (y : ByteArray) : AV := (.v (.string y))
def spec_l1Num.out (_ : Int) (_ : ByteArray) : List (Option LB) := []
def spec_l1Num.S (ar : List AV) (h : List (Option LB)) (r : AV) (h1 : List (Option LB)) : Prop := ∃ a0 y, spec_l1Num a0 = some y ∧ leL ar [(.v (.int .i64 a0))] ∧ leH h [] ∧ r = spec_l1Num.res a0 y ∧ h1 = spec_l1Num.out a0 y
theorem spec_l1Num.call {ar h a0 y} (H : spec_l1Num a0 = some y) (h0 : leLk ar [(.v (.int .i64 a0))] (leHk h [])) : spec_l1Num.S ar h (spec_l1Num.res a0 y) (spec_l1Num.out a0 y) := ⟨a0, y, H, (args_ok h0).1, (args_ok h0).2, rfl, rfl⟩
def spec_l1Num_f.S (k : Nat) (ar : List AV) (h : List (Option LB)) (r : AV) (h1 : List (Option LB)) : Prop := ∃ a0 y, spec_l1Num_f k a0 = some y ∧ leL ar [(.v (.int .i64 a0))] ∧ leH h [] ∧ r = spec_l1Num.res a0 y ∧ h1 = spec_l1Num.out a0 y
theorem spec_l1Num_f.call {k : Nat} {ar : List AV} {h : List (Option LB)} {a0 : Int} {y : ByteArray} (H : spec_l1Num_f k a0 = some y) (h0 : leLk ar [(.v (.int .i64 a0))] (leHk h [])) : spec_l1Num_f.S k ar h (spec_l1Num.res a0 y) (spec_l1Num.out a0 y) := ⟨a0, y, H, (args_ok h0).1, (args_ok h0).2, rfl, rfl⟩
theorem spec_l1Num_f.spec (k : Nat) : ∀ (a0 : Int) (y : ByteArray) (_ : spec_l1Num_f k a0 = some y), Spec Tryz.prog 63 [(.v (.int .i64 a0))] [] (spec_l1Num.res a0 y) (spec_l1Num.out a0 y) := by
  induction k with
  | zero => intro a0 y H; unfold spec_l1Num_f at H; cases H
  | succ k IH =>
  intro a0 y H
  have H := (spec_l1Num_f_succ k a0).symm.trans H
  have hG : EnvOk Tryz.prog (G15.add 63 [] (spec_l1Num_f.S k)) := G15_ok.add ent_63 fun ar h r h1 ⟨a0, y, hy, e1, e2, e3, e4⟩ => by
    subst e3 e4; exact (IH a0 y hy).le e1 e2
  clear IH
  refine spec_intro (hG.at tok []) (ct := [(5, some [0])]) Tryz.func63 rfl (by kernel_rfl) (by kernel_rfl) rfl ?_
  repeat' first
    | ((with_reducible refine eqg ?_); exact rfl)
    | ((with_reducible refine KOb.mk ?_); kernel_rfl)
    | ((with_reducible intro h); (repeat first | replace H := grd_k H | replace H := out_step H ‹_›); first | replace H := cond_t h H | replace H := cond_f h H | exact absurd h (by decide) | skip)
    | ((with_reducible refine Ob.mk ?_); first | (with_reducible rfl) | (first | ((repeat (first | (with_reducible exact grd_p H) | replace H := grd_k H | replace H := out_step H ‹_›)); done) | rfl | ((repeat (first | exact grd_p H | (have hp := grd_p H; exact hp) | replace H := grd_k H | replace H := out_step H ‹_› | (replace H := bind_some H; obtain ⟨_, _, H⟩ := H))); done) | (repeat (first | exact grd_p H | replace H := grd_k H | replace H := out_step H ‹_›))))
    | (with_reducible exact True.intro)
    | ((conv => whnf); first
        | (with_reducible refine And.intro ?_ ?_)
        | (with_reducible exact True.intro)
        | (with_reducible refine (?_ : Ob _))
        | ((with_reducible refine CallW.mk ?_); (repeat first | replace H := grd_k H | replace H := out_step H ‹_›); replace H := bind_some H; obtain ⟨y, hy, H⟩ := H; first | ((with_reducible have hz : spec_l1Num_f k _ = some y := hy); clear hz; refine ⟨_, _, spec_l1Num_f.call hy ?_, rfl, rfl, ?_⟩))
        | ((with_reducible refine fin_mk ?_); (repeat first | replace H := grd_k H | replace H := out_step H ‹_›); have H := Option.some.inj H; subst H))
    | constructor
theorem spec_l1Num.spec (a0 y) (H : spec_l1Num a0 = some y) : Spec Tryz.prog 63 [(.v (.int .i64 a0))] [] (spec_l1Num.res a0 y) (spec_l1Num.out a0 y) := spec_l1Num_f.spec 64 a0 y H
def G16 : Env := G15.add 63 [] spec_l1Num.S
theorem G16_ok : EnvOk Tryz.prog G16 := G15_ok.add ent_63 fun ar h r h1 ⟨a0, y, hy, e1, e2, e3, e4⟩ => by
  subst e3 e4; exact (spec_l1Num.spec a0 y hy).le e1 e2
attribute [local irreducible] spec_l1Num

noncomputable def spec_l27Plain_loop1 (a0 : ByteArray) (v5 : Int) : Option (Lp (Int) ((Unit) ⊕ (Unit))) :=
  (cond (decide (v5 < (a0.size : Int))) (grd (0 ≤ v5 ∧ v5 < (a0.size : Int)) ((spec_l1In (w64 (bAt a0 v5)) (32 : Int) (126 : Int)).bind fun y6 => (cond (!y6) ((some (.out (Sum.inl ())))) (grd (0 ≤ v5 ∧ v5 < (a0.size : Int)) (cond (decide ((bAt a0 v5) = (35 : Int))) ((some (.out (Sum.inl ())))) (some (.go (w64 (v5 + (1 : Int)))))))))) ((some (.out (Sum.inr ())))))
noncomputable def spec_l27Plain (a0 : ByteArray) (a1 : Int) : Option (Bool) :=
  ((iter (fun s => spec_l27Plain_loop1 a0 s) (0 : Int)).bind (Sum.elim (fun _ => (some false)) (fun _ => (some (decide ((a0.size : Int) ≤ a1))))))
def spec_l27Plain.res (_ : ByteArray) (_ : Int) (y : Bool) : AV := (.bl y)
def spec_l27Plain.out (_ : ByteArray) (_ : Int) (_ : Bool) : List (Option LB) := []
def spec_l27Plain.S (ar : List AV) (h : List (Option LB)) (r : AV) (h1 : List (Option LB)) : Prop := ∃ a0 a1 y, spec_l27Plain a0 a1 = some y ∧ leL ar [(.v (.string a0)), (.v (.int .i64 a1))] ∧ leH h [] ∧ r = spec_l27Plain.res a0 a1 y ∧ h1 = spec_l27Plain.out a0 a1 y
theorem spec_l27Plain.call {ar h a0 a1 y} (H : spec_l27Plain a0 a1 = some y) (h0 : leLk ar [(.v (.string a0)), (.v (.int .i64 a1))] (leHk h [])) : spec_l27Plain.S ar h (spec_l27Plain.res a0 a1 y) (spec_l27Plain.out a0 a1 y) := ⟨a0, a1, y, H, (args_ok h0).1, (args_ok h0).2, rfl, rfl⟩
theorem spec_l27Plain.spec (a0 a1 y) (H : spec_l27Plain a0 a1 = some y) : Spec Tryz.prog 77 [(.v (.string a0)), (.v (.int .i64 a1))] [] (spec_l27Plain.res a0 a1 y) (spec_l27Plain.out a0 a1 y) := by
  refine spec_intro (G16_ok.at tok []) (ct := [(5, some [0, 1, 5, 19, 20, 21, 22, 23])]) Tryz.func77 rfl (by kernel_rfl) (by kernel_rfl) rfl ?_
  repeat' first
    | ((with_reducible refine eqg ?_); exact rfl)
    | ((with_reducible refine KOb.mk ?_); kernel_rfl)
    | ((with_reducible intro h); (repeat first | replace H := grd_k H | replace H := out_step H ‹_›); first | replace H := cond_t h H | replace H := cond_f h H | exact absurd h (by decide) | skip)
    | ((with_reducible refine Ob.mk ?_); first | (with_reducible rfl) | (first | ((repeat (first | (with_reducible exact grd_p H) | replace H := grd_k H | replace H := out_step H ‹_›)); done) | rfl | ((repeat (first | exact grd_p H | (have hp := grd_p H; exact hp) | replace H := grd_k H | replace H := out_step H ‹_› | (replace H := bind_some H; obtain ⟨_, _, H⟩ := H))); done) | (repeat (first | exact grd_p H | replace H := grd_k H | replace H := out_step H ‹_›))))
    | (with_reducible exact True.intro)
    | ((conv => whnf); first
        | (with_reducible refine And.intro ?_ ?_)
        | (with_reducible exact True.intro)
        | (with_reducible refine (?_ : Ob _))
        | ((with_reducible refine CallW.mk ?_); (repeat first | replace H := grd_k H | replace H := out_step H ‹_›); replace H := bind_some H; obtain ⟨y, hy, H⟩ := H; first | ((with_reducible have hz : spec_l1In _ _ _ = some y := hy); clear hz; refine ⟨_, _, spec_l1In.call hy ?_, rfl, rfl, ?_⟩))
        | ((repeat first | replace H := grd_k H | replace H := out_step H ‹_›); refine loop_iter (G16_ok.at tok []) (ct := [(5, some [0, 1, 5, 19, 20, 21, 22, 23])]) (F := (fun s1 : Int => ⟨sl [(0, (.v (.string a0))), (1, (.v (.int .i64 a1))), (5, (.v (.int .i64 s1)))], []⟩)) (step := (fun s : Int => spec_l27Plain_loop1 _ s)) _ H (by kernel_rfl) (sub_auto ?_) ?_; rotate_left; (intro s1 r v hr H); rotate_right)
        | ((repeat first | replace H := grd_k H | replace H := out_step H ‹_›); refine again_step H (by assumption) (sub_auto ?_))
        | ((with_reducible refine fin_mk ?_); (repeat first | replace H := grd_k H | replace H := out_step H ‹_›); have H := Option.some.inj H; subst H))
    | constructor
def G17 : Env := G16.add 77 [] spec_l27Plain.S
theorem G17_ok : EnvOk Tryz.prog G17 := G16_ok.add ent_77 fun ar h r h1 ⟨a0, a1, y, hy, e1, e2, e3, e4⟩ => by
  subst e3 e4; exact (spec_l27Plain.spec a0 a1 y hy).le e1 e2
attribute [local irreducible] spec_l27Plain

noncomputable def spec_l1Stands_loop1 (a0 : ByteArray) (a1 : Int) (v2 : Int) : Option (Lp (Int) ((Unit) ⊕ (Unit))) :=
  (cond (decide (v2 < (a0.size : Int))) (grd (0 ≤ v2 ∧ v2 < (a0.size : Int)) (cond (decide ((bAt a0 v2) = a1)) ((some (.out (Sum.inl ())))) (some (.go (w64 (v2 + (1 : Int))))))) ((some (.out (Sum.inr ())))))
noncomputable def spec_l1Stands (a0 : ByteArray) (a1 : Int) : Option (Bool) :=
  ((iter (fun s => spec_l1Stands_loop1 a0 a1 s) (0 : Int)).bind (Sum.elim (fun _ => (some true)) (fun _ => (some false))))
def spec_l1Stands.res (_ : ByteArray) (_ : Int) (y : Bool) : AV := (.bl y)
def spec_l1Stands.out (_ : ByteArray) (_ : Int) (_ : Bool) : List (Option LB) := []
def spec_l1Stands.S (ar : List AV) (h : List (Option LB)) (r : AV) (h1 : List (Option LB)) : Prop := ∃ a0 a1 y, spec_l1Stands a0 a1 = some y ∧ leL ar [(.v (.string a0)), (.v (.int .u8 a1))] ∧ leH h [] ∧ r = spec_l1Stands.res a0 a1 y ∧ h1 = spec_l1Stands.out a0 a1 y
theorem spec_l1Stands.call {ar h a0 a1 y} (H : spec_l1Stands a0 a1 = some y) (h0 : leLk ar [(.v (.string a0)), (.v (.int .u8 a1))] (leHk h [])) : spec_l1Stands.S ar h (spec_l1Stands.res a0 a1 y) (spec_l1Stands.out a0 a1 y) := ⟨a0, a1, y, H, (args_ok h0).1, (args_ok h0).2, rfl, rfl⟩
theorem spec_l1Stands.spec (a0 a1 y) (H : spec_l1Stands a0 a1 = some y) : Spec Tryz.prog 78 [(.v (.string a0)), (.v (.int .u8 a1))] [] (spec_l1Stands.res a0 a1 y) (spec_l1Stands.out a0 a1 y) := by
  refine spec_intro (G17_ok.at tok []) (ct := []) Tryz.func78 rfl (by kernel_rfl) (by kernel_rfl) rfl ?_
  repeat' first
    | ((with_reducible refine eqg ?_); exact rfl)
    | ((with_reducible refine KOb.mk ?_); kernel_rfl)
    | ((with_reducible intro h); (repeat first | replace H := grd_k H | replace H := out_step H ‹_›); first | replace H := cond_t h H | replace H := cond_f h H | exact absurd h (by decide) | skip)
    | ((with_reducible refine Ob.mk ?_); first | (with_reducible rfl) | (first | ((repeat (first | (with_reducible exact grd_p H) | replace H := grd_k H | replace H := out_step H ‹_›)); done) | rfl | ((repeat (first | exact grd_p H | (have hp := grd_p H; exact hp) | replace H := grd_k H | replace H := out_step H ‹_› | (replace H := bind_some H; obtain ⟨_, _, H⟩ := H))); done) | (repeat (first | exact grd_p H | replace H := grd_k H | replace H := out_step H ‹_›))))
    | (with_reducible exact True.intro)
    | ((conv => whnf); first
        | (with_reducible refine And.intro ?_ ?_)
        | (with_reducible exact True.intro)
        | (with_reducible refine (?_ : Ob _))
        | ((repeat first | replace H := grd_k H | replace H := out_step H ‹_›); refine loop_iter (G17_ok.at tok []) (ct := []) (F := (fun s1 : Int => ⟨sl [(0, (.v (.string a0))), (1, (.v (.int .u8 a1))), (5, (.v (.int .i64 s1)))], []⟩)) (step := (fun s : Int => spec_l1Stands_loop1 _ _ s)) _ H (by kernel_rfl) (sub_auto ?_) ?_; rotate_left; (intro s1 r v hr H); rotate_right)
        | ((repeat first | replace H := grd_k H | replace H := out_step H ‹_›); refine again_step H (by assumption) (sub_auto ?_))
        | ((with_reducible refine fin_mk ?_); (repeat first | replace H := grd_k H | replace H := out_step H ‹_›); have H := Option.some.inj H; subst H))
    | constructor
def G18 : Env := G17.add 78 [] spec_l1Stands.S
theorem G18_ok : EnvOk Tryz.prog G18 := G17_ok.add ent_78 fun ar h r h1 ⟨a0, a1, y, hy, e1, e2, e3, e4⟩ => by
  subst e3 e4; exact (spec_l1Stands.spec a0 a1 y hy).le e1 e2
attribute [local irreducible] spec_l1Stands

end Go.Proofs.YtaobinhdnklojaaGreatDoor
namespace Go.Proofs.YtaobinhdnklojaaGreatDoor
open Go.RowKit
set_option maxHeartbeats 100000000
set_option maxRecDepth 100000
attribute [local irreducible] Ob loopwp Sub Spec Fin Again CallW CutC KOb iter

attribute [local irreducible] spec_l1Split spec_l1Num spec_l1Num_f spec_l27Plain spec_l1Stands

noncomputable def spec_l27Good (a0 : LogRecord) : Option (Bool) :=
  (cond (!decide (a0.1 = (ByteArray.mk #[]))) ((spec_l27Plain a0.1 (160 : Int)).bind fun y1 => (cond y1 ((spec_l1Stands a0.1 (64 : Int)).bind fun y2 => (cond (!y2) ((spec_l27Plain a0.2.1 (200 : Int)).bind fun y3 => (some y3)) ((some false)))) ((some false)))) ((some false)))
def spec_l27Good.res (_ : LogRecord) (y : Bool) : AV := (.bl y)
def spec_l27Good.out (_ : LogRecord) (_ : Bool) : List (Option LB) := []
def spec_l27Good.S (ar : List AV) (h : List (Option LB)) (r : AV) (h1 : List (Option LB)) : Prop := ∃ a0 y, spec_l27Good a0 = some y ∧ leL ar [(.agg [(.v (.string a0.1)), (.v (.string a0.2.1))])] ∧ leH h [] ∧ r = spec_l27Good.res a0 y ∧ h1 = spec_l27Good.out a0 y
theorem spec_l27Good.call {ar h a0 y} (H : spec_l27Good a0 = some y) (h0 : leLk ar [(.agg [(.v (.string a0.1)), (.v (.string a0.2.1))])] (leHk h [])) : spec_l27Good.S ar h (spec_l27Good.res a0 y) (spec_l27Good.out a0 y) := ⟨a0, y, H, (args_ok h0).1, (args_ok h0).2, rfl, rfl⟩
theorem spec_l27Good.spec (a0 y) (H : spec_l27Good a0 = some y) : Spec Tryz.prog 41 [(.agg [(.v (.string a0.1)), (.v (.string a0.2.1))])] [] (spec_l27Good.res a0 y) (spec_l27Good.out a0 y) := by
  refine spec_intro (G18_ok.at tok []) (ct := []) Tryz.func41 rfl (by kernel_rfl) (by kernel_rfl) rfl ?_
  repeat' first
    | ((with_reducible refine eqg ?_); exact rfl)
    | ((with_reducible refine KOb.mk ?_); kernel_rfl)
    | ((with_reducible intro h); (repeat first | replace H := grd_k H | replace H := out_step H ‹_›); first | replace H := cond_t h H | replace H := cond_f h H | exact absurd h (by decide) | skip)
    | ((with_reducible refine Ob.mk ?_); first | (with_reducible rfl) | (first | ((repeat (first | (with_reducible exact grd_p H) | replace H := grd_k H | replace H := out_step H ‹_›)); done) | rfl | ((repeat (first | exact grd_p H | (have hp := grd_p H; exact hp) | replace H := grd_k H | replace H := out_step H ‹_› | (replace H := bind_some H; obtain ⟨_, _, H⟩ := H))); done) | (repeat (first | exact grd_p H | replace H := grd_k H | replace H := out_step H ‹_›))))
    | (with_reducible exact True.intro)
    | ((conv => whnf); first
        | (with_reducible refine And.intro ?_ ?_)
        | (with_reducible exact True.intro)
        | (with_reducible refine (?_ : Ob _))
        | ((with_reducible refine CallW.mk ?_); (repeat first | replace H := grd_k H | replace H := out_step H ‹_›); replace H := bind_some H; obtain ⟨y, hy, H⟩ := H; first | ((with_reducible have hz : spec_l27Plain _ _ = some y := hy); clear hz; refine ⟨_, _, spec_l27Plain.call hy ?_, rfl, rfl, ?_⟩) | ((with_reducible have hz : spec_l1Stands _ _ = some y := hy); clear hz; refine ⟨_, _, spec_l1Stands.call hy ?_, rfl, rfl, ?_⟩))
        | ((with_reducible refine fin_mk ?_); (repeat first | replace H := grd_k H | replace H := out_step H ‹_›); have H := Option.some.inj H; subst H))
    | constructor
def G19 : Env := G18.add 41 [] spec_l27Good.S
theorem G19_ok : EnvOk Tryz.prog G19 := G18_ok.add ent_41 fun ar h r h1 ⟨a0, y, hy, e1, e2, e3, e4⟩ => by
  subst e3 e4; exact (spec_l27Good.spec a0 y hy).le e1 e2
attribute [local irreducible] spec_l27Good

noncomputable def spec_l1Sum_loop1 (a0 : ByteArray) (v3 : Int) (v4 : Int) : Option (Lp (Int × Int) ((Int))) :=
  (cond (decide (v4 < (a0.size : Int))) (grd (0 ≤ v4 ∧ v4 < (a0.size : Int)) (grd ((999979 : Int) ≠ 0) (some (.go ((Int.tmod (w64 ((w64 ((w64 ((41 : Int) * v3)) + (w64 (bAt a0 v4)))) + (1 : Int))) (999979 : Int)), (w64 (v4 + (1 : Int)))))))) ((some (.out v3))))
noncomputable def spec_l1Sum (a0 : ByteArray) : Option (Int) :=
  ((iter (fun s => spec_l1Sum_loop1 a0 s.1 s.2) ((7 : Int), (0 : Int))).bind (fun r5 => (some r5)))
def spec_l1Sum.res (_ : ByteArray) (y : Int) : AV := (.v (.int .i64 y))
def spec_l1Sum.out (_ : ByteArray) (_ : Int) : List (Option LB) := []
def spec_l1Sum.S (ar : List AV) (h : List (Option LB)) (r : AV) (h1 : List (Option LB)) : Prop := ∃ a0 y, spec_l1Sum a0 = some y ∧ leL ar [(.v (.string a0))] ∧ leH h [] ∧ r = spec_l1Sum.res a0 y ∧ h1 = spec_l1Sum.out a0 y
theorem spec_l1Sum.call {ar h a0 y} (H : spec_l1Sum a0 = some y) (h0 : leLk ar [(.v (.string a0))] (leHk h [])) : spec_l1Sum.S ar h (spec_l1Sum.res a0 y) (spec_l1Sum.out a0 y) := ⟨a0, y, H, (args_ok h0).1, (args_ok h0).2, rfl, rfl⟩
theorem spec_l1Sum.spec (a0 y) (H : spec_l1Sum a0 = some y) : Spec Tryz.prog 155 [(.v (.string a0))] [] (spec_l1Sum.res a0 y) (spec_l1Sum.out a0 y) := by
  refine spec_intro (G19_ok.at tok []) (ct := [(4, some [0, 3, 4])]) Tryz.func155 rfl (by kernel_rfl) (by kernel_rfl) rfl ?_
  repeat' first
    | ((with_reducible refine eqg ?_); exact rfl)
    | ((with_reducible refine KOb.mk ?_); kernel_rfl)
    | ((with_reducible intro h); (repeat first | replace H := grd_k H | replace H := out_step H ‹_›); first | replace H := cond_t h H | replace H := cond_f h H | exact absurd h (by decide) | skip)
    | ((with_reducible refine Ob.mk ?_); first | (with_reducible rfl) | (first | ((repeat (first | (with_reducible exact grd_p H) | replace H := grd_k H | replace H := out_step H ‹_›)); done) | rfl | ((repeat (first | exact grd_p H | (have hp := grd_p H; exact hp) | replace H := grd_k H | replace H := out_step H ‹_› | (replace H := bind_some H; obtain ⟨_, _, H⟩ := H))); done) | (repeat (first | exact grd_p H | replace H := grd_k H | replace H := out_step H ‹_›))))
    | (with_reducible exact True.intro)
    | ((conv => whnf); first
        | (with_reducible refine And.intro ?_ ?_)
        | (with_reducible exact True.intro)
        | (with_reducible refine (?_ : Ob _))
        | ((repeat first | replace H := grd_k H | replace H := out_step H ‹_›); refine loop_iter (G19_ok.at tok []) (ct := [(4, some [0, 3, 4])]) (F := (fun s1 : Int × Int => ⟨sl [(0, (.v (.string a0))), (3, (.v (.int .i64 s1.1))), (4, (.v (.int .i64 s1.2)))], []⟩)) (step := (fun s : Int × Int => spec_l1Sum_loop1 _ s.1 s.2)) _ H (by kernel_rfl) (sub_auto ?_) ?_; rotate_left; (intro s1 r v hr H); rotate_right)
        | ((repeat first | replace H := grd_k H | replace H := out_step H ‹_›); refine again_step H (by assumption) (sub_auto ?_))
        | ((with_reducible refine fin_mk ?_); (repeat first | replace H := grd_k H | replace H := out_step H ‹_›); have H := Option.some.inj H; subst H))
    | constructor
def G20 : Env := G19.add 155 [] spec_l1Sum.S
theorem G20_ok : EnvOk Tryz.prog G20 := G19_ok.add ent_155 fun ar h r h1 ⟨a0, y, hy, e1, e2, e3, e4⟩ => by
  subst e3 e4; exact (spec_l1Sum.spec a0 y hy).le e1 e2
attribute [local irreducible] spec_l1Sum

noncomputable def spec_l1Seal (a0 : ByteArray) : Option (ByteArray) :=
  (grd (a0.size + (ByteArray.mk #[35]).size ≤ 9223372036854775807) ((spec_l1Sum a0).bind fun y1 => ((spec_l1Num y1).bind fun y2 => (grd ((a0 ++ (ByteArray.mk #[35])).size + y2.size ≤ 9223372036854775807) ((some ((a0 ++ (ByteArray.mk #[35])) ++ y2)))))))
def spec_l1Seal.res (_ : ByteArray) (y : ByteArray) : AV := (.v (.string y))
def spec_l1Seal.out (_ : ByteArray) (_ : ByteArray) : List (Option LB) := []
def spec_l1Seal.S (ar : List AV) (h : List (Option LB)) (r : AV) (h1 : List (Option LB)) : Prop := ∃ a0 y, spec_l1Seal a0 = some y ∧ leL ar [(.v (.string a0))] ∧ leH h [] ∧ r = spec_l1Seal.res a0 y ∧ h1 = spec_l1Seal.out a0 y
theorem spec_l1Seal.call {ar h a0 y} (H : spec_l1Seal a0 = some y) (h0 : leLk ar [(.v (.string a0))] (leHk h [])) : spec_l1Seal.S ar h (spec_l1Seal.res a0 y) (spec_l1Seal.out a0 y) := ⟨a0, y, H, (args_ok h0).1, (args_ok h0).2, rfl, rfl⟩
theorem spec_l1Seal.spec (a0 y) (H : spec_l1Seal a0 = some y) : Spec Tryz.prog 122 [(.v (.string a0))] [] (spec_l1Seal.res a0 y) (spec_l1Seal.out a0 y) := by
  refine spec_intro (G20_ok.at tok []) (ct := []) Tryz.func122 rfl (by kernel_rfl) (by kernel_rfl) rfl ?_
  repeat' first
    | ((with_reducible refine eqg ?_); exact rfl)
    | ((with_reducible refine KOb.mk ?_); kernel_rfl)
    | ((with_reducible intro h); (repeat first | replace H := grd_k H | replace H := out_step H ‹_›); first | replace H := cond_t h H | replace H := cond_f h H | exact absurd h (by decide) | skip)
    | ((with_reducible refine Ob.mk ?_); first | (with_reducible rfl) | (first | ((repeat (first | (with_reducible exact grd_p H) | replace H := grd_k H | replace H := out_step H ‹_›)); done) | rfl | ((repeat (first | exact grd_p H | (have hp := grd_p H; exact hp) | replace H := grd_k H | replace H := out_step H ‹_› | (replace H := bind_some H; obtain ⟨_, _, H⟩ := H))); done) | (repeat (first | exact grd_p H | replace H := grd_k H | replace H := out_step H ‹_›))))
    | (with_reducible exact True.intro)
    | ((conv => whnf); first
        | (with_reducible refine And.intro ?_ ?_)
        | (with_reducible exact True.intro)
        | (with_reducible refine (?_ : Ob _))
        | ((with_reducible refine CallW.mk ?_); (repeat first | replace H := grd_k H | replace H := out_step H ‹_›); replace H := bind_some H; obtain ⟨y, hy, H⟩ := H; first | ((with_reducible have hz : spec_l1Sum _ = some y := hy); clear hz; refine ⟨_, _, spec_l1Sum.call hy ?_, rfl, rfl, ?_⟩) | ((with_reducible have hz : spec_l1Num _ = some y := hy); clear hz; refine ⟨_, _, spec_l1Num.call hy ?_, rfl, rfl, ?_⟩))
        | ((with_reducible refine fin_mk ?_); (repeat first | replace H := grd_k H | replace H := out_step H ‹_›); have H := Option.some.inj H; subst H))
    | constructor
def G21 : Env := G20.add 122 [] spec_l1Seal.S
theorem G21_ok : EnvOk Tryz.prog G21 := G20_ok.add ent_122 fun ar h r h1 ⟨a0, y, hy, e1, e2, e3, e4⟩ => by
  subst e3 e4; exact (spec_l1Seal.spec a0 y hy).le e1 e2
attribute [local irreducible] spec_l1Seal

noncomputable def spec_l27Line (a0 : Int) (a1 : LogRecord) : Option (ByteArray) :=
  ((spec_l1Num a0).bind fun y1 => (grd (y1.size + (ByteArray.mk #[32]).size ≤ 9223372036854775807) (grd ((y1 ++ (ByteArray.mk #[32])).size + a1.1.size ≤ 9223372036854775807) (grd (((y1 ++ (ByteArray.mk #[32])) ++ a1.1).size + (ByteArray.mk #[64]).size ≤ 9223372036854775807) (grd ((((y1 ++ (ByteArray.mk #[32])) ++ a1.1) ++ (ByteArray.mk #[64])).size + a1.2.1.size ≤ 9223372036854775807) ((spec_l1Seal ((((y1 ++ (ByteArray.mk #[32])) ++ a1.1) ++ (ByteArray.mk #[64])) ++ a1.2.1)).bind fun y2 => (grd (y2.size + (ByteArray.mk #[10]).size ≤ 9223372036854775807) ((some (y2 ++ (ByteArray.mk #[10])))))))))))
def spec_l27Line.res (_ : Int) (_ : LogRecord) (y : ByteArray) : AV := (.v (.string y))
def spec_l27Line.out (_ : Int) (_ : LogRecord) (_ : ByteArray) : List (Option LB) := []
def spec_l27Line.S (ar : List AV) (h : List (Option LB)) (r : AV) (h1 : List (Option LB)) : Prop := ∃ a0 a1 y, spec_l27Line a0 a1 = some y ∧ leL ar [(.v (.int .i64 a0)), (.agg [(.v (.string a1.1)), (.v (.string a1.2.1))])] ∧ leH h [] ∧ r = spec_l27Line.res a0 a1 y ∧ h1 = spec_l27Line.out a0 a1 y
theorem spec_l27Line.call {ar h a0 a1 y} (H : spec_l27Line a0 a1 = some y) (h0 : leLk ar [(.v (.int .i64 a0)), (.agg [(.v (.string a1.1)), (.v (.string a1.2.1))])] (leHk h [])) : spec_l27Line.S ar h (spec_l27Line.res a0 a1 y) (spec_l27Line.out a0 a1 y) := ⟨a0, a1, y, H, (args_ok h0).1, (args_ok h0).2, rfl, rfl⟩
theorem spec_l27Line.spec (a0 a1 y) (H : spec_l27Line a0 a1 = some y) : Spec Tryz.prog 82 [(.v (.int .i64 a0)), (.agg [(.v (.string a1.1)), (.v (.string a1.2.1))])] [] (spec_l27Line.res a0 a1 y) (spec_l27Line.out a0 a1 y) := by
  refine spec_intro (G21_ok.at tok []) (ct := []) Tryz.func82 rfl (by kernel_rfl) (by kernel_rfl) rfl ?_
  repeat' first
    | ((with_reducible refine eqg ?_); exact rfl)
    | ((with_reducible refine KOb.mk ?_); kernel_rfl)
    | ((with_reducible intro h); (repeat first | replace H := grd_k H | replace H := out_step H ‹_›); first | replace H := cond_t h H | replace H := cond_f h H | exact absurd h (by decide) | skip)
    | ((with_reducible refine Ob.mk ?_); first | (with_reducible rfl) | (first | ((repeat (first | (with_reducible exact grd_p H) | replace H := grd_k H | replace H := out_step H ‹_›)); done) | rfl | ((repeat (first | exact grd_p H | (have hp := grd_p H; exact hp) | replace H := grd_k H | replace H := out_step H ‹_› | (replace H := bind_some H; obtain ⟨_, _, H⟩ := H))); done) | (repeat (first | exact grd_p H | replace H := grd_k H | replace H := out_step H ‹_›))))
    | (with_reducible exact True.intro)
    | ((conv => whnf); first
        | (with_reducible refine And.intro ?_ ?_)
        | (with_reducible exact True.intro)
        | (with_reducible refine (?_ : Ob _))
        | ((with_reducible refine CallW.mk ?_); (repeat first | replace H := grd_k H | replace H := out_step H ‹_›); replace H := bind_some H; obtain ⟨y, hy, H⟩ := H; first | ((with_reducible have hz : spec_l1Num _ = some y := hy); clear hz; refine ⟨_, _, spec_l1Num.call hy ?_, rfl, rfl, ?_⟩) | ((with_reducible have hz : spec_l1Seal _ = some y := hy); clear hz; refine ⟨_, _, spec_l1Seal.call hy ?_, rfl, rfl, ?_⟩))
        | ((with_reducible refine fin_mk ?_); (repeat first | replace H := grd_k H | replace H := out_step H ‹_›); have H := Option.some.inj H; subst H))
    | constructor
def G22 : Env := G21.add 82 [] spec_l27Line.S
theorem G22_ok : EnvOk Tryz.prog G22 := G21_ok.add ent_82 fun ar h r h1 ⟨a0, a1, y, hy, e1, e2, e3, e4⟩ => by
  subst e3 e4; exact (spec_l27Line.spec a0 a1 y hy).le e1 e2
attribute [local irreducible] spec_l27Line

noncomputable def spec_l27Read (a0 : ByteArray) (a1 : Int) : Option (LogRecord × Bool) :=
  ((spec_l1Num a1).bind fun y1 => (grd (y1.size + (ByteArray.mk #[32]).size ≤ 9223372036854775807) ((spec_l1Split a0 (35 : Int)).bind fun y2 => (grd (0 ≤ (0 : Int) ∧ (0 : Int) < (y2.length : Int)) (cond (decide (((y2.getD ((0 : Int).toNat) (ByteArray.mk #[])).size : Int) < ((y1 ++ (ByteArray.mk #[32])).size : Int))) ((some (((ByteArray.mk #[]), (ByteArray.mk #[]), ()), false))) (grd (0 ≤ (0 : Int) ∧ (0 : Int) ≤ ((y1 ++ (ByteArray.mk #[32])).size : Int) ∧ ((y1 ++ (ByteArray.mk #[32])).size : Int) ≤ ((y2.getD ((0 : Int).toNat) (ByteArray.mk #[])).size : Int)) (cond (!decide ((bsub (y2.getD ((0 : Int).toNat) (ByteArray.mk #[])) (0 : Int) ((y1 ++ (ByteArray.mk #[32])).size : Int)) = (y1 ++ (ByteArray.mk #[32])))) ((some (((ByteArray.mk #[]), (ByteArray.mk #[]), ()), false))) (grd (0 ≤ ((y1 ++ (ByteArray.mk #[32])).size : Int) ∧ ((y1 ++ (ByteArray.mk #[32])).size : Int) ≤ ((y2.getD ((0 : Int).toNat) (ByteArray.mk #[])).size : Int) ∧ ((y2.getD ((0 : Int).toNat) (ByteArray.mk #[])).size : Int) ≤ ((y2.getD ((0 : Int).toNat) (ByteArray.mk #[])).size : Int)) ((spec_l1Split (bsub (y2.getD ((0 : Int).toNat) (ByteArray.mk #[])) ((y1 ++ (ByteArray.mk #[32])).size : Int) ((y2.getD ((0 : Int).toNat) (ByteArray.mk #[])).size : Int)) (64 : Int)).bind fun y3 => (grd (0 ≤ (0 : Int) ∧ (0 : Int) < (y3.length : Int)) (cond (decide (((y3.getD ((0 : Int).toNat) (ByteArray.mk #[])).size : Int) = ((bsub (y2.getD ((0 : Int).toNat) (ByteArray.mk #[])) ((y1 ++ (ByteArray.mk #[32])).size : Int) ((y2.getD ((0 : Int).toNat) (ByteArray.mk #[])).size : Int)).size : Int))) ((some (((ByteArray.mk #[]), (ByteArray.mk #[]), ()), false))) (grd (0 ≤ (w64 (((y3.getD ((0 : Int).toNat) (ByteArray.mk #[])).size : Int) + (1 : Int))) ∧ (w64 (((y3.getD ((0 : Int).toNat) (ByteArray.mk #[])).size : Int) + (1 : Int))) ≤ ((bsub (y2.getD ((0 : Int).toNat) (ByteArray.mk #[])) ((y1 ++ (ByteArray.mk #[32])).size : Int) ((y2.getD ((0 : Int).toNat) (ByteArray.mk #[])).size : Int)).size : Int) ∧ ((bsub (y2.getD ((0 : Int).toNat) (ByteArray.mk #[])) ((y1 ++ (ByteArray.mk #[32])).size : Int) ((y2.getD ((0 : Int).toNat) (ByteArray.mk #[])).size : Int)).size : Int) ≤ ((bsub (y2.getD ((0 : Int).toNat) (ByteArray.mk #[])) ((y1 ++ (ByteArray.mk #[32])).size : Int) ((y2.getD ((0 : Int).toNat) (ByteArray.mk #[])).size : Int)).size : Int)) ((spec_l27Good ((y3.getD ((0 : Int).toNat) (ByteArray.mk #[])), (bsub (bsub (y2.getD ((0 : Int).toNat) (ByteArray.mk #[])) ((y1 ++ (ByteArray.mk #[32])).size : Int) ((y2.getD ((0 : Int).toNat) (ByteArray.mk #[])).size : Int)) (w64 (((y3.getD ((0 : Int).toNat) (ByteArray.mk #[])).size : Int) + (1 : Int))) ((bsub (y2.getD ((0 : Int).toNat) (ByteArray.mk #[])) ((y1 ++ (ByteArray.mk #[32])).size : Int) ((y2.getD ((0 : Int).toNat) (ByteArray.mk #[])).size : Int)).size : Int)), ())).bind fun y4 => (cond y4 ((spec_l27Line a1 ((y3.getD ((0 : Int).toNat) (ByteArray.mk #[])), (bsub (bsub (y2.getD ((0 : Int).toNat) (ByteArray.mk #[])) ((y1 ++ (ByteArray.mk #[32])).size : Int) ((y2.getD ((0 : Int).toNat) (ByteArray.mk #[])).size : Int)) (w64 (((y3.getD ((0 : Int).toNat) (ByteArray.mk #[])).size : Int) + (1 : Int))) ((bsub (y2.getD ((0 : Int).toNat) (ByteArray.mk #[])) ((y1 ++ (ByteArray.mk #[32])).size : Int) ((y2.getD ((0 : Int).toNat) (ByteArray.mk #[])).size : Int)).size : Int)), ())).bind fun y5 => (grd (a0.size + (ByteArray.mk #[10]).size ≤ 9223372036854775807) ((some (((y3.getD ((0 : Int).toNat) (ByteArray.mk #[])), (bsub (bsub (y2.getD ((0 : Int).toNat) (ByteArray.mk #[])) ((y1 ++ (ByteArray.mk #[32])).size : Int) ((y2.getD ((0 : Int).toNat) (ByteArray.mk #[])).size : Int)) (w64 (((y3.getD ((0 : Int).toNat) (ByteArray.mk #[])).size : Int) + (1 : Int))) ((bsub (y2.getD ((0 : Int).toNat) (ByteArray.mk #[])) ((y1 ++ (ByteArray.mk #[32])).size : Int) ((y2.getD ((0 : Int).toNat) (ByteArray.mk #[])).size : Int)).size : Int)), ()), (decide (y5 = (a0 ++ (ByteArray.mk #[10]))))))))) ((some (((y3.getD ((0 : Int).toNat) (ByteArray.mk #[])), (bsub (bsub (y2.getD ((0 : Int).toNat) (ByteArray.mk #[])) ((y1 ++ (ByteArray.mk #[32])).size : Int) ((y2.getD ((0 : Int).toNat) (ByteArray.mk #[])).size : Int)) (w64 (((y3.getD ((0 : Int).toNat) (ByteArray.mk #[])).size : Int) + (1 : Int))) ((bsub (y2.getD ((0 : Int).toNat) (ByteArray.mk #[])) ((y1 ++ (ByteArray.mk #[32])).size : Int) ((y2.getD ((0 : Int).toNat) (ByteArray.mk #[])).size : Int)).size : Int)), ()), false)))))))))))))))))
def spec_l27Read.res (_ : ByteArray) (_ : Int) (y : LogRecord × Bool) : AV := (.tup [(.agg [(.v (.string y.1.1)), (.v (.string y.1.2.1))]), (.bl y.2)])
def spec_l27Read.out (_ : ByteArray) (_ : Int) (_ : LogRecord × Bool) : List (Option LB) := []
def spec_l27Read.S (ar : List AV) (h : List (Option LB)) (r : AV) (h1 : List (Option LB)) : Prop := ∃ a0 a1 y, spec_l27Read a0 a1 = some y ∧ leL ar [(.v (.string a0)), (.v (.int .i64 a1))] ∧ leH h [] ∧ r = spec_l27Read.res a0 a1 y ∧ h1 = spec_l27Read.out a0 a1 y
theorem spec_l27Read.call {ar h a0 a1 y} (H : spec_l27Read a0 a1 = some y) (h0 : leLk ar [(.v (.string a0)), (.v (.int .i64 a1))] (leHk h [])) : spec_l27Read.S ar h (spec_l27Read.res a0 a1 y) (spec_l27Read.out a0 a1 y) := ⟨a0, a1, y, H, (args_ok h0).1, (args_ok h0).2, rfl, rfl⟩
theorem spec_l27Read.spec (a0 a1 y) (H : spec_l27Read a0 a1 = some y) : Spec Tryz.prog 112 [(.v (.string a0)), (.v (.int .i64 a1))] [] (spec_l27Read.res a0 a1 y) (spec_l27Read.out a0 a1 y) := by
  refine spec_intro (G22_ok.at tok []) (ct := [(4, some [0, 1, 4, 6, 7, 30, 57, 58, 59, 60, 61, 62]), (8, some [0, 1, 4, 8, 9, 44, 57, 58, 59, 60, 61, 62])]) Tryz.func112 rfl (by kernel_rfl) (by kernel_rfl) rfl ?_
  repeat' first
    | ((with_reducible refine eqg ?_); exact rfl)
    | ((with_reducible refine KOb.mk ?_); kernel_rfl)
    | ((with_reducible intro h); (repeat first | replace H := grd_k H | replace H := out_step H ‹_›); first | replace H := cond_t h H | replace H := cond_f h H | exact absurd h (by decide) | skip)
    | ((with_reducible refine Ob.mk ?_); first | (with_reducible rfl) | (first | ((repeat (first | (with_reducible exact grd_p H) | replace H := grd_k H | replace H := out_step H ‹_›)); done) | rfl | ((repeat (first | exact grd_p H | (have hp := grd_p H; exact hp) | replace H := grd_k H | replace H := out_step H ‹_› | (replace H := bind_some H; obtain ⟨_, _, H⟩ := H))); done) | (repeat (first | exact grd_p H | replace H := grd_k H | replace H := out_step H ‹_›))))
    | (with_reducible exact True.intro)
    | ((conv => whnf); first
        | (with_reducible refine And.intro ?_ ?_)
        | (with_reducible exact True.intro)
        | (with_reducible refine (?_ : Ob _))
        | ((with_reducible refine CallW.mk ?_); (repeat first | replace H := grd_k H | replace H := out_step H ‹_›); replace H := bind_some H; obtain ⟨y, hy, H⟩ := H; first | ((with_reducible have hz : spec_l1Num _ = some y := hy); clear hz; refine ⟨_, _, spec_l1Num.call hy ?_, rfl, rfl, ?_⟩) | ((with_reducible have hz : spec_l1Split _ _ = some y := hy); clear hz; refine ⟨_, _, spec_l1Split.call hy ?_, rfl, rfl, ?_⟩) | ((with_reducible have hz : spec_l27Good _ = some y := hy); clear hz; refine ⟨_, _, spec_l27Good.call hy ?_, rfl, rfl, ?_⟩) | ((with_reducible have hz : spec_l27Line _ _ = some y := hy); clear hz; refine ⟨_, _, spec_l27Line.call hy ?_, rfl, rfl, ?_⟩))
        | ((with_reducible refine fin_mk ?_); (repeat first | replace H := grd_k H | replace H := out_step H ‹_›); have H := Option.some.inj H; subst H))
    | constructor
def G23 : Env := G22.add 112 [] spec_l27Read.S
theorem G23_ok : EnvOk Tryz.prog G23 := G22_ok.add ent_112 fun ar h r h1 ⟨a0, a1, y, hy, e1, e2, e3, e4⟩ => by
  subst e3 e4; exact (spec_l27Read.spec a0 a1 y hy).le e1 e2
attribute [local irreducible] spec_l27Read

noncomputable def spec_l27Open_loop1 (a0 : ByteArray) (v9 : Int) (v10 : (List LogRecord)) : Option (Lp (Int × (List LogRecord)) ((Int × (List LogRecord)))) :=
  (cond (decide (v9 < (a0.size : Int))) (cond (decide ((v10.length : Int) < (60 : Int))) (grd (0 ≤ v9 ∧ v9 ≤ (a0.size : Int) ∧ (a0.size : Int) ≤ (a0.size : Int)) ((spec_l1Split (bsub a0 v9 (a0.size : Int)) (10 : Int)).bind fun y11 => (grd (0 ≤ (0 : Int) ∧ (0 : Int) < (y11.length : Int)) ((spec_l27Read (y11.getD ((0 : Int).toNat) (ByteArray.mk #[])) (v10.length : Int)).bind fun y12 => (cond (decide ((y11.length : Int) < (2 : Int))) ((some (.out (v9, v10)))) (cond (!y12.2) ((some (.out (v9, v10)))) (grd (v10.length + [(y12.1.1, y12.1.2.1, ())].length ≤ 140737488355328 / 32 ∧ v10.length + [(y12.1.1, y12.1.2.1, ())].length ≤ 140737488355328) (grd (0 ≤ (0 : Int) ∧ (0 : Int) < (y11.length : Int)) (some (.go ((w64 ((w64 (v9 + ((y11.getD ((0 : Int).toNat) (ByteArray.mk #[])).size : Int))) + (1 : Int))), (v10 ++ [(y12.1.1, y12.1.2.1, ())])))))))))))) ((some (.out (v9, v10))))) ((some (.out (v9, v10)))))
noncomputable def spec_l27Open (a0 : ByteArray) : Option ((List LogRecord) × Int) :=
  ((iter (fun s => spec_l27Open_loop1 a0 s.1 s.2) ((0 : Int), ([] : List LogRecord))).bind (fun r13 => (some (r13.2, r13.1))))
def spec_l27Open.res (_ : ByteArray) (y : (List LogRecord) × Int) : AV := (.tup [(.own 0), (.v (.int .i64 y.2))])
def spec_l27Open.out (_ : ByteArray) (y : (List LogRecord) × Int) : List (Option LB) := [some (.arr 70 ty_LogRecord y.1)]
def spec_l27Open.S (ar : List AV) (h : List (Option LB)) (r : AV) (h1 : List (Option LB)) : Prop := ∃ a0 y, spec_l27Open a0 = some y ∧ leL ar [(.v (.string a0))] ∧ leH h [] ∧ r = spec_l27Open.res a0 y ∧ h1 = spec_l27Open.out a0 y
theorem spec_l27Open.call {ar h a0 y} (H : spec_l27Open a0 = some y) (h0 : leLk ar [(.v (.string a0))] (leHk h [])) : spec_l27Open.S ar h (spec_l27Open.res a0 y) (spec_l27Open.out a0 y) := ⟨a0, y, H, (args_ok h0).1, (args_ok h0).2, rfl, rfl⟩
theorem spec_l27Open.spec (a0 y) (H : spec_l27Open a0 = some y) : Spec Tryz.prog 72 [(.v (.string a0))] [] (spec_l27Open.res a0 y) (spec_l27Open.out a0 y) := by
  refine spec_intro (G23_ok.at tok []) (ct := [(5, some [0, 4, 5, 6, 15, 16, 17, 36, 37]), (7, some [0, 4, 5, 6, 7, 15, 16, 17, 36, 37])]) Tryz.func72 rfl (by kernel_rfl) (by kernel_rfl) rfl ?_
  repeat' first
    | ((with_reducible refine eqg ?_); exact rfl)
    | ((with_reducible refine KOb.mk ?_); kernel_rfl)
    | ((with_reducible intro h); (repeat first | replace H := grd_k H | replace H := out_step H ‹_›); first | replace H := cond_t h H | replace H := cond_f h H | exact absurd h (by decide) | skip)
    | ((with_reducible refine Ob.mk ?_); first | (with_reducible rfl) | (first | ((repeat (first | (with_reducible exact grd_p H) | replace H := grd_k H | replace H := out_step H ‹_›)); done) | rfl | ((repeat (first | exact grd_p H | (have hp := grd_p H; exact hp) | replace H := grd_k H | replace H := out_step H ‹_› | (replace H := bind_some H; obtain ⟨_, _, H⟩ := H))); done) | (repeat (first | exact grd_p H | replace H := grd_k H | replace H := out_step H ‹_›))))
    | (with_reducible exact True.intro)
    | ((conv => whnf); first
        | (with_reducible refine And.intro ?_ ?_)
        | (with_reducible exact True.intro)
        | (with_reducible refine (?_ : Ob _))
        | ((with_reducible refine CallW.mk ?_); (repeat first | replace H := grd_k H | replace H := out_step H ‹_›); replace H := bind_some H; obtain ⟨y, hy, H⟩ := H; first | ((with_reducible have hz : spec_l1Split _ _ = some y := hy); clear hz; refine ⟨_, _, spec_l1Split.call hy ?_, rfl, rfl, ?_⟩) | ((with_reducible have hz : spec_l27Read _ _ = some y := hy); clear hz; refine ⟨_, _, spec_l27Read.call hy ?_, rfl, rfl, ?_⟩))
        | ((repeat first | replace H := grd_k H | replace H := out_step H ‹_›); refine loop_iter (G23_ok.at tok []) (ct := [(5, some [0, 4, 5, 6, 15, 16, 17, 36, 37]), (7, some [0, 4, 5, 6, 7, 15, 16, 17, 36, 37])]) (F := (fun s1 : Int × (List LogRecord) => ⟨sl [(0, (.v (.string a0))), (4, (.own 0)), (5, (.v (.int .i64 s1.1)))], [some (.arr 70 ty_LogRecord s1.2)]⟩)) (step := (fun s : Int × (List LogRecord) => spec_l27Open_loop1 _ s.1 s.2)) _ H (by kernel_rfl) (sub_auto ?_) ?_; rotate_left; (intro s1 r v hr H); rotate_right)
        | ((repeat first | replace H := grd_k H | replace H := out_step H ‹_›); refine again_step H (by assumption) (sub_auto ?_))
        | ((with_reducible refine fin_mk ?_); (repeat first | replace H := grd_k H | replace H := out_step H ‹_›); have H := Option.some.inj H; subst H))
    | constructor
def G24 : Env := G23.add 72 [] spec_l27Open.S
theorem G24_ok : EnvOk Tryz.prog G24 := G23_ok.add ent_72 fun ar h r h1 ⟨a0, y, hy, e1, e2, e3, e4⟩ => by
  subst e3 e4; exact (spec_l27Open.spec a0 y hy).le e1 e2
attribute [local irreducible] spec_l27Open

end Go.Proofs.YtaobinhdnklojaaGreatDoor
