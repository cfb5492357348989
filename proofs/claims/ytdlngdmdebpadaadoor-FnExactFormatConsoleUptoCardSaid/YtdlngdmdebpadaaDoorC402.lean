/-
  Contracts, printed by a program.
-/
import Derived.Test.YtdlngdmdebpadaaDoorC401
namespace Go.Proofs.YtdlngdmdebpadaaDoor
open Go.RowKit
attribute [local irreducible] Ob loopwp Sub Spec Fin Again CallW CutC KOb iter joinx outm

attribute [local irreducible] laws_szSlotS laws_szRopeway laws_szLog laws_szConsole laws_toSlot laws_toSlotS laws_toRopeway

noncomputable def laws_toLog (a0 : Log) : Option (Log) :=
  (some (a0.1, a0.2.1, a0.2.2.1, ()))
def laws_toLog.res (_ : Log) (y : Log) : AV := (.agg [(.v (.string y.1)), (.v (.string y.2.1)), (.v (.int .i64 y.2.2.1))])
def laws_toLog.out (_ : Log) (_ : Log) : List (Option LB) := []
def laws_toLog.S (ar : List AV) (h : List (Option LB)) (r : AV) (h1 : List (Option LB)) : Prop := ∃ a0 y, laws_toLog a0 = some y ∧ leL ar [(.agg [(.v (.string a0.1)), (.v (.string a0.2.1)), (.v (.int .i64 a0.2.2.1))])] ∧ leH h [] ∧ r = laws_toLog.res a0 y ∧ h1 = laws_toLog.out a0 y
theorem laws_toLog.call {ar : List AV} {h : List (Option LB)} {a0 : Log} {y : Log} (H : laws_toLog a0 = some y) (h0 : leLk ar [(.agg [(.v (.string a0.1)), (.v (.string a0.2.1)), (.v (.int .i64 a0.2.2.1))])] (leHk h [])) : laws_toLog.S ar h (laws_toLog.res a0 y) (laws_toLog.out a0 y) := ⟨a0, y, H, (args_ok h0).1, (args_ok h0).2, rfl, rfl⟩
set_option maxHeartbeats 100000000 in
set_option maxRecDepth 100000 in
theorem laws_toLog.spec (a0 : Log) (y : Log) (H : laws_toLog a0 = some y) : Spec Tryd.prog 16 [(.agg [(.v (.string a0.1)), (.v (.string a0.2.1)), (.v (.int .i64 a0.2.2.1))])] [] (laws_toLog.res a0 y) (laws_toLog.out a0 y) := by
  refine spec_intro (G7_ok.at tok []) (ct := []) Tryd.func16 rfl (by kernel_rfl) (by kernel_rfl) rfl ?_
  repeat' first
    | ((with_reducible refine eqg ?_); exact rfl)
    | ((with_reducible refine KOb.mk ?_); kernel_rfl)
    | ((with_reducible intro h); (repeat (first | replace H := grd_k H | replace H := out_step H (by assumption))); first | replace H := cond_t h H | replace H := cond_f h H | exact absurd h (by decide) | skip)
    | ((with_reducible refine Ob.mk ?_); first | (with_reducible rfl) | (first | ((repeat (first | (with_reducible exact grd_p H) | (replace H := grd_k H) | (replace H := out_step H (by assumption)))); done) | rfl | ((repeat (first | exact grd_p H | replace H := grd_k H | replace H := out_step H (by assumption))); done) | ((repeat (first | exact grd_p H | (have hp := grd_p H; exact hp) | replace H := grd_k H | replace H := out_step H (by assumption) | (replace H := bind_some H; obtain ⟨_, _, H⟩ := H))); done) | (repeat (first | exact grd_p H | replace H := grd_k H | replace H := out_step H (by assumption)))))
    | (with_reducible exact True.intro)
    | constructor
    | ((conv => whnf); first
        | ((with_reducible refine Ob.mk ?_); first | (with_reducible rfl) | (first | ((repeat (first | (with_reducible exact grd_p H) | (replace H := grd_k H) | (replace H := out_step H (by assumption)))); done) | rfl | ((repeat (first | exact grd_p H | replace H := grd_k H | replace H := out_step H (by assumption))); done) | ((repeat (first | exact grd_p H | (have hp := grd_p H; exact hp) | replace H := grd_k H | replace H := out_step H (by assumption) | (replace H := bind_some H; obtain ⟨_, _, H⟩ := H))); done) | (repeat (first | exact grd_p H | replace H := grd_k H | replace H := out_step H (by assumption)))))
        | ((with_reducible refine fin_mk ?_); (repeat (first | replace H := grd_k H | replace H := out_step H (by assumption))); have H := Option.some.inj H; subst H))
def G8 : Env := G7.add 16 [] laws_toLog.S
theorem G8_ok : EnvOk Tryd.prog G8 := G7_ok.add ent_16 fun ar h r h1 ⟨a0, y, hy, e1, e2, e3, e4⟩ => by
  subst e3 e4; exact (laws_toLog.spec a0 y hy).le e1 e2
attribute [local irreducible] laws_toLog

noncomputable def laws_toConsole (a0 : Console) : Option (Console) :=
  ((laws_toRopeway (a0.1.1, a0.1.2.1, a0.1.2.2.1, a0.1.2.2.2.1, a0.1.2.2.2.2.1, ())).bind fun y1 => ((laws_toLog (a0.2.1.1, a0.2.1.2.1, a0.2.1.2.2.1, ())).bind fun y2 => (some ((y1.1, y1.2.1, y1.2.2.1, y1.2.2.2.1, y1.2.2.2.2.1, ()), (y2.1, y2.2.1, y2.2.2.1, ()), ()))))
def laws_toConsole.res (_ : Console) (y : Console) : AV := (.agg [(.v (.int .i64 y.1.1)), (.own 0), (.v (.int .i64 y.1.2.2.1)), (.v (.int .i64 y.1.2.2.2.1)), (.v (.int .i64 y.1.2.2.2.2.1)), (.v (.string y.2.1.1)), (.v (.string y.2.1.2.1)), (.v (.int .i64 y.2.1.2.2.1))])
def laws_toConsole.out (_ : Console) (y : Console) : List (Option LB) := [some (.arr 51 ty_Slot y.1.2.1)]
def laws_toConsole.S (ar : List AV) (h : List (Option LB)) (r : AV) (h1 : List (Option LB)) : Prop := ∃ a0 y, laws_toConsole a0 = some y ∧ leL ar [(.agg [(.v (.int .i64 a0.1.1)), (.tree ty_Slot a0.1.2.1), (.v (.int .i64 a0.1.2.2.1)), (.v (.int .i64 a0.1.2.2.2.1)), (.v (.int .i64 a0.1.2.2.2.2.1)), (.v (.string a0.2.1.1)), (.v (.string a0.2.1.2.1)), (.v (.int .i64 a0.2.1.2.2.1))])] ∧ leH h [] ∧ r = laws_toConsole.res a0 y ∧ h1 = laws_toConsole.out a0 y
theorem laws_toConsole.call {ar : List AV} {h : List (Option LB)} {a0 : Console} {y : Console} (H : laws_toConsole a0 = some y) (h0 : leLk ar [(.agg [(.v (.int .i64 a0.1.1)), (.tree ty_Slot a0.1.2.1), (.v (.int .i64 a0.1.2.2.1)), (.v (.int .i64 a0.1.2.2.2.1)), (.v (.int .i64 a0.1.2.2.2.2.1)), (.v (.string a0.2.1.1)), (.v (.string a0.2.1.2.1)), (.v (.int .i64 a0.2.1.2.2.1))])] (leHk h [])) : laws_toConsole.S ar h (laws_toConsole.res a0 y) (laws_toConsole.out a0 y) := ⟨a0, y, H, (args_ok h0).1, (args_ok h0).2, rfl, rfl⟩
set_option maxHeartbeats 100000000 in
set_option maxRecDepth 100000 in
theorem laws_toConsole.spec (a0 : Console) (y : Console) (H : laws_toConsole a0 = some y) : Spec Tryd.prog 7 [(.agg [(.v (.int .i64 a0.1.1)), (.tree ty_Slot a0.1.2.1), (.v (.int .i64 a0.1.2.2.1)), (.v (.int .i64 a0.1.2.2.2.1)), (.v (.int .i64 a0.1.2.2.2.2.1)), (.v (.string a0.2.1.1)), (.v (.string a0.2.1.2.1)), (.v (.int .i64 a0.2.1.2.2.1))])] [] (laws_toConsole.res a0 y) (laws_toConsole.out a0 y) := by
  refine spec_intro (G8_ok.at tok []) (ct := []) Tryd.func7 rfl (by kernel_rfl) (by kernel_rfl) rfl ?_
  repeat' first
    | ((with_reducible refine eqg ?_); exact rfl)
    | ((with_reducible refine KOb.mk ?_); kernel_rfl)
    | ((with_reducible intro h); (repeat (first | replace H := grd_k H | replace H := out_step H (by assumption))); first | replace H := cond_t h H | replace H := cond_f h H | exact absurd h (by decide) | skip)
    | ((with_reducible refine Ob.mk ?_); first | (with_reducible rfl) | (first | ((repeat (first | (with_reducible exact grd_p H) | (replace H := grd_k H) | (replace H := out_step H (by assumption)))); done) | rfl | ((repeat (first | exact grd_p H | replace H := grd_k H | replace H := out_step H (by assumption))); done) | ((repeat (first | exact grd_p H | (have hp := grd_p H; exact hp) | replace H := grd_k H | replace H := out_step H (by assumption) | (replace H := bind_some H; obtain ⟨_, _, H⟩ := H))); done) | (repeat (first | exact grd_p H | replace H := grd_k H | replace H := out_step H (by assumption)))))
    | (with_reducible exact True.intro)
    | constructor
    | ((conv => whnf); first
        | ((with_reducible refine Ob.mk ?_); first | (with_reducible rfl) | (first | ((repeat (first | (with_reducible exact grd_p H) | (replace H := grd_k H) | (replace H := out_step H (by assumption)))); done) | rfl | ((repeat (first | exact grd_p H | replace H := grd_k H | replace H := out_step H (by assumption))); done) | ((repeat (first | exact grd_p H | (have hp := grd_p H; exact hp) | replace H := grd_k H | replace H := out_step H (by assumption) | (replace H := bind_some H; obtain ⟨_, _, H⟩ := H))); done) | (repeat (first | exact grd_p H | replace H := grd_k H | replace H := out_step H (by assumption)))))
        | ((with_reducible refine CallW.mk ?_); (repeat (first | replace H := grd_k H | replace H := out_step H (by assumption))); replace H := bind_some H; obtain ⟨y, hy, H⟩ := H; first | ((with_reducible have hz : laws_toRopeway _ = some y := hy); clear hz; refine Exists.intro _ (Exists.intro _ ⟨laws_toRopeway.call hy ?_, rfl, rfl, ?_⟩)) | ((with_reducible have hz : laws_toLog _ = some y := hy); clear hz; refine Exists.intro _ (Exists.intro _ ⟨laws_toLog.call hy ?_, rfl, rfl, ?_⟩)))
        | ((with_reducible refine fin_mk ?_); (repeat (first | replace H := grd_k H | replace H := out_step H (by assumption))); have H := Option.some.inj H; subst H))
def G9 : Env := G8.add 7 [] laws_toConsole.S
theorem G9_ok : EnvOk Tryd.prog G9 := G8_ok.add ent_7 fun ar h r h1 ⟨a0, y, hy, e1, e2, e3, e4⟩ => by
  subst e3 e4; exact (laws_toConsole.spec a0 y hy).le e1 e2
attribute [local irreducible] laws_toConsole

noncomputable def spec_l1In (a0 : Int) (a1 : Int) (a2 : Int) : Option (Bool) :=
  (cond (decide (a1 ≤ a0)) ((some (decide (a0 ≤ a2)))) ((some false)))
def spec_l1In.res (_ : Int) (_ : Int) (_ : Int) (y : Bool) : AV := (.bl y)
def spec_l1In.out (_ : Int) (_ : Int) (_ : Int) (_ : Bool) : List (Option LB) := []
def spec_l1In.S (ar : List AV) (h : List (Option LB)) (r : AV) (h1 : List (Option LB)) : Prop := ∃ a0 a1 a2 y, spec_l1In a0 a1 a2 = some y ∧ leL ar [(.v (.int .i64 a0)), (.v (.int .i64 a1)), (.v (.int .i64 a2))] ∧ leH h [] ∧ r = spec_l1In.res a0 a1 a2 y ∧ h1 = spec_l1In.out a0 a1 a2 y
theorem spec_l1In.call {ar : List AV} {h : List (Option LB)} {a0 : Int} {a1 : Int} {a2 : Int} {y : Bool} (H : spec_l1In a0 a1 a2 = some y) (h0 : leLk ar [(.v (.int .i64 a0)), (.v (.int .i64 a1)), (.v (.int .i64 a2))] (leHk h [])) : spec_l1In.S ar h (spec_l1In.res a0 a1 a2 y) (spec_l1In.out a0 a1 a2 y) := ⟨a0, a1, a2, y, H, (args_ok h0).1, (args_ok h0).2, rfl, rfl⟩
set_option maxHeartbeats 100000000 in
set_option maxRecDepth 100000 in
theorem spec_l1In.spec (a0 : Int) (a1 : Int) (a2 : Int) (y : Bool) (H : spec_l1In a0 a1 a2 = some y) : Spec Tryd.prog 38 [(.v (.int .i64 a0)), (.v (.int .i64 a1)), (.v (.int .i64 a2))] [] (spec_l1In.res a0 a1 a2 y) (spec_l1In.out a0 a1 a2 y) := by
  refine spec_intro (G9_ok.at tok []) (ct := []) Tryd.func38 rfl (by kernel_rfl) (by kernel_rfl) rfl ?_
  repeat' first
    | ((with_reducible refine eqg ?_); exact rfl)
    | ((with_reducible refine KOb.mk ?_); kernel_rfl)
    | ((with_reducible intro h); (repeat (first | replace H := grd_k H | replace H := out_step H (by assumption))); first | replace H := cond_t h H | replace H := cond_f h H | exact absurd h (by decide) | skip)
    | ((with_reducible refine Ob.mk ?_); first | (with_reducible rfl) | (first | ((repeat (first | (with_reducible exact grd_p H) | (replace H := grd_k H) | (replace H := out_step H (by assumption)))); done) | rfl | ((repeat (first | exact grd_p H | replace H := grd_k H | replace H := out_step H (by assumption))); done) | ((repeat (first | exact grd_p H | (have hp := grd_p H; exact hp) | replace H := grd_k H | replace H := out_step H (by assumption) | (replace H := bind_some H; obtain ⟨_, _, H⟩ := H))); done) | (repeat (first | exact grd_p H | replace H := grd_k H | replace H := out_step H (by assumption)))))
    | (with_reducible exact True.intro)
    | constructor
    | ((conv => whnf); first
        | ((with_reducible refine Ob.mk ?_); first | (with_reducible rfl) | (first | ((repeat (first | (with_reducible exact grd_p H) | (replace H := grd_k H) | (replace H := out_step H (by assumption)))); done) | rfl | ((repeat (first | exact grd_p H | replace H := grd_k H | replace H := out_step H (by assumption))); done) | ((repeat (first | exact grd_p H | (have hp := grd_p H; exact hp) | replace H := grd_k H | replace H := out_step H (by assumption) | (replace H := bind_some H; obtain ⟨_, _, H⟩ := H))); done) | (repeat (first | exact grd_p H | replace H := grd_k H | replace H := out_step H (by assumption)))))
        | ((with_reducible refine fin_mk ?_); (repeat (first | replace H := grd_k H | replace H := out_step H (by assumption))); have H := Option.some.inj H; subst H))
def G10 : Env := G9.add 38 [] spec_l1In.S
theorem G10_ok : EnvOk Tryd.prog G10 := G9_ok.add ent_38 fun ar h r h1 ⟨a0, a1, a2, y, hy, e1, e2, e3, e4⟩ => by
  subst e3 e4; exact (spec_l1In.spec a0 a1 a2 y hy).le e1 e2
attribute [local irreducible] spec_l1In

noncomputable def spec_l25Slot_loop1 (a0 : Ropeway) (a1 : Int) (v4 : Int) : Option (Lp (Int) ((Unit) ⊕ (Unit))) :=
  (cond (decide (v4 < a1)) (grd (0 ≤ v4 ∧ v4 < (a0.2.1.length : Int)) (cond (decide (((a0.2.1.getD v4.toNat d_Slot).1) = ((a0.2.1.getD a1.toNat d_Slot).1))) ((some (.out (Sum.inl ())))) (some (.go (w64 (v4 + (1 : Int))))))) ((some (.out (Sum.inr ())))))
noncomputable def spec_l25Slot (a0 : Ropeway) (a1 : Int) : Option (Bool) :=
  (grd (0 ≤ a1 ∧ a1 < (a0.2.1.length : Int)) ((spec_l1In ((a0.2.1.getD a1.toNat d_Slot).1) (0 : Int) (20 : Int)).bind fun y1 => (cond (!y1) ((some false)) ((spec_l1In ((a0.2.1.getD a1.toNat d_Slot).2.2.1) (0 : Int) (8 : Int)).bind fun y2 => (cond (!y2) ((some false)) (cond (decide (((a0.2.1.getD a1.toNat d_Slot).1) = (0 : Int))) (cond (!((a0.2.1.getD a1.toNat d_Slot).2.1)) ((some (decide (((a0.2.1.getD a1.toNat d_Slot).2.2.1) = (0 : Int))))) ((some false))) ((iter (fun s => spec_l25Slot_loop1 a0 a1 s) (0 : Int)).bind (Sum.elim (fun _ => (some false)) (fun _ => (grd ((a0.2.1.length : Int) ≠ 0) (grd (0 ≤ (Int.tmod (w64 (a1 + (1 : Int))) (a0.2.1.length : Int)) ∧ (Int.tmod (w64 (a1 + (1 : Int))) (a0.2.1.length : Int)) < (a0.2.1.length : Int)) (cond (!decide (((a0.2.1.getD ((Int.tmod (w64 (a1 + (1 : Int))) (a0.2.1.length : Int)).toNat) d_Slot).1) = (0 : Int))) ((some false)) (cond (!((a0.2.1.getD a1.toNat d_Slot).2.1)) ((some true)) (cond (decide (a1 = (0 : Int))) ((some true)) (grd ((2 : Int) ≠ 0) ((some (decide (a1 = (w64 (Int.tdiv (a0.2.1.length : Int) (2 : Int))))))))))))))))))))))
def spec_l25Slot.res (_ : Ropeway) (_ : Int) (y : Bool) : AV := (.bl y)
def spec_l25Slot.out (_ : Ropeway) (_ : Int) (_ : Bool) : List (Option LB) := []
def spec_l25Slot.S (ar : List AV) (h : List (Option LB)) (r : AV) (h1 : List (Option LB)) : Prop := ∃ a0 a1 y, spec_l25Slot a0 a1 = some y ∧ leL ar [(.agg [(.v (.int .i64 a0.1)), (.tree ty_Slot a0.2.1), (.v (.int .i64 a0.2.2.1)), (.v (.int .i64 a0.2.2.2.1)), (.v (.int .i64 a0.2.2.2.2.1))]), (.v (.int .i64 a1))] ∧ leH h [] ∧ r = spec_l25Slot.res a0 a1 y ∧ h1 = spec_l25Slot.out a0 a1 y
theorem spec_l25Slot.call {ar : List AV} {h : List (Option LB)} {a0 : Ropeway} {a1 : Int} {y : Bool} (H : spec_l25Slot a0 a1 = some y) (h0 : leLk ar [(.agg [(.v (.int .i64 a0.1)), (.tree ty_Slot a0.2.1), (.v (.int .i64 a0.2.2.1)), (.v (.int .i64 a0.2.2.2.1)), (.v (.int .i64 a0.2.2.2.2.1))]), (.v (.int .i64 a1))] (leHk h [])) : spec_l25Slot.S ar h (spec_l25Slot.res a0 a1 y) (spec_l25Slot.out a0 a1 y) := ⟨a0, a1, y, H, (args_ok h0).1, (args_ok h0).2, rfl, rfl⟩
set_option maxHeartbeats 100000000 in
set_option maxRecDepth 100000 in
theorem spec_l25Slot.spec (a0 : Ropeway) (a1 : Int) (y : Bool) (H : spec_l25Slot a0 a1 = some y) : Spec Tryd.prog 39 [(.agg [(.v (.int .i64 a0.1)), (.tree ty_Slot a0.2.1), (.v (.int .i64 a0.2.2.1)), (.v (.int .i64 a0.2.2.2.1)), (.v (.int .i64 a0.2.2.2.2.1))]), (.v (.int .i64 a1))] [] (spec_l25Slot.res a0 a1 y) (spec_l25Slot.out a0 a1 y) := by
  refine spec_intro (G10_ok.at tok []) (ct := [(3, some [1, 2, 5, 21, 29, 30, 31, 63, 64, 67, 68, 69, 70, 71, 72]), (7, some [1, 2, 5, 6, 63, 64, 67, 68, 69, 70, 71, 72]), (12, some [1, 2, 5, 58, 63, 64, 67, 68, 69, 70, 71, 72])]) Tryd.func39 rfl (by kernel_rfl) (by kernel_rfl) rfl ?_
  repeat' first
    | ((with_reducible refine eqg ?_); exact rfl)
    | ((with_reducible refine KOb.mk ?_); kernel_rfl)
    | ((with_reducible intro h); (repeat (first | replace H := grd_k H | replace H := out_step H (by assumption))); first | replace H := cond_t h H | replace H := cond_f h H | exact absurd h (by decide) | skip)
    | ((with_reducible refine Ob.mk ?_); first | (with_reducible rfl) | (first | ((repeat (first | (with_reducible exact grd_p H) | (replace H := grd_k H) | (replace H := out_step H (by assumption)))); done) | rfl | ((repeat (first | exact grd_p H | replace H := grd_k H | replace H := out_step H (by assumption))); done) | ((repeat (first | exact grd_p H | (have hp := grd_p H; exact hp) | replace H := grd_k H | replace H := out_step H (by assumption) | (replace H := bind_some H; obtain ⟨_, _, H⟩ := H))); done) | (repeat (first | exact grd_p H | replace H := grd_k H | replace H := out_step H (by assumption)))))
    | (with_reducible exact True.intro)
    | constructor
    | ((conv => whnf); first
        | ((with_reducible refine Ob.mk ?_); first | (with_reducible rfl) | (first | ((repeat (first | (with_reducible exact grd_p H) | (replace H := grd_k H) | (replace H := out_step H (by assumption)))); done) | rfl | ((repeat (first | exact grd_p H | replace H := grd_k H | replace H := out_step H (by assumption))); done) | ((repeat (first | exact grd_p H | (have hp := grd_p H; exact hp) | replace H := grd_k H | replace H := out_step H (by assumption) | (replace H := bind_some H; obtain ⟨_, _, H⟩ := H))); done) | (repeat (first | exact grd_p H | replace H := grd_k H | replace H := out_step H (by assumption)))))
        | ((with_reducible refine CallW.mk ?_); (repeat (first | replace H := grd_k H | replace H := out_step H (by assumption))); replace H := bind_some H; obtain ⟨y, hy, H⟩ := H; first | ((with_reducible have hz : spec_l1In _ _ _ = some y := hy); clear hz; refine Exists.intro _ (Exists.intro _ ⟨spec_l1In.call hy ?_, rfl, rfl, ?_⟩)))
        | ((repeat (first | replace H := grd_k H | replace H := out_step H (by assumption))); refine loop_iter (G10_ok.at tok []) (ct := [(3, some [1, 2, 5, 21, 29, 30, 31, 63, 64, 67, 68, 69, 70, 71, 72]), (7, some [1, 2, 5, 6, 63, 64, 67, 68, 69, 70, 71, 72]), (12, some [1, 2, 5, 58, 63, 64, 67, 68, 69, 70, 71, 72])]) (F := (fun s1 : Int => ⟨sl [(1, (.v (.int .i64 a1))), (2, (.loc 0 0 0)), (5, (.loc 1 0 0)), (6, (.v (.int .i64 s1)))], [some (.box 33 [(.v (.int .i64 a0.1)), (.tree ty_Slot a0.2.1), (.v (.int .i64 a0.2.2.1)), (.v (.int .i64 a0.2.2.2.1)), (.v (.int .i64 a0.2.2.2.2.1))]), some (.box 51 [(.v (.int .i64 ((a0.2.1.getD a1.toNat d_Slot).1))), (.bl ((a0.2.1.getD a1.toNat d_Slot).2.1)), (.v (.int .i64 ((a0.2.1.getD a1.toNat d_Slot).2.2.1)))])]⟩)) (step := (fun s : Int => spec_l25Slot_loop1 _ _ s)) _ H (by kernel_rfl) (sub_auto ?_) ?_; rotate_left; (intro s1 r v hr H); rotate_right)
        | ((repeat (first | replace H := grd_k H | replace H := out_step H (by assumption))); refine again_step H (by assumption) (sub_auto ?_))
        | ((with_reducible refine fin_mk ?_); (repeat (first | replace H := grd_k H | replace H := out_step H (by assumption))); have H := Option.some.inj H; subst H))
def G11 : Env := G10.add 39 [] spec_l25Slot.S
theorem G11_ok : EnvOk Tryd.prog G11 := G10_ok.add ent_39 fun ar h r h1 ⟨a0, a1, y, hy, e1, e2, e3, e4⟩ => by
  subst e3 e4; exact (spec_l25Slot.spec a0 a1 y hy).le e1 e2
attribute [local irreducible] spec_l25Slot

noncomputable def spec_l25Good_loop1 (a0 : Ropeway) (v9 : Int) : Option (Lp (Int) ((Unit) ⊕ (Unit))) :=
  (cond (decide (v9 < (a0.2.1.length : Int))) ((spec_l25Slot (a0.1, a0.2.1, a0.2.2.1, a0.2.2.2.1, a0.2.2.2.2.1, ()) v9).bind fun y10 => (cond (!y10) ((some (.out (Sum.inl ())))) (some (.go (w64 (v9 + (1 : Int))))))) ((some (.out (Sum.inr ())))))
noncomputable def spec_l25Good (a0 : Ropeway) : Option (Bool) :=
  ((spec_l1In a0.1 (0 : Int) (3 : Int)).bind fun y1 => (cond (!y1) ((some false)) ((spec_l1In (a0.2.1.length : Int) (4 : Int) (10 : Int)).bind fun y2 => (cond (!y2) ((some false)) (grd ((2 : Int) ≠ 0) (cond (!decide ((Int.tmod (a0.2.1.length : Int) (2 : Int)) = (0 : Int))) ((some false)) ((spec_l1In a0.2.2.1 (0 : Int) (500 : Int)).bind fun y3 => (cond (!y3) ((some false)) ((spec_l1In a0.2.2.2.1 (0 : Int) (500 : Int)).bind fun y4 => (cond (!y4) ((some false)) ((spec_l1In a0.2.2.2.2.1 (0 : Int) (500 : Int)).bind fun y5 => (cond (!y5) ((some false)) ((iter (fun s => spec_l25Good_loop1 a0 s) (0 : Int)).bind (Sum.elim (fun _ => (some false)) (fun _ => (some true))))))))))))))))
def spec_l25Good.res (_ : Ropeway) (y : Bool) : AV := (.bl y)
def spec_l25Good.out (_ : Ropeway) (_ : Bool) : List (Option LB) := []
def spec_l25Good.S (ar : List AV) (h : List (Option LB)) (r : AV) (h1 : List (Option LB)) : Prop := ∃ a0 y, spec_l25Good a0 = some y ∧ leL ar [(.agg [(.v (.int .i64 a0.1)), (.tree ty_Slot a0.2.1), (.v (.int .i64 a0.2.2.1)), (.v (.int .i64 a0.2.2.2.1)), (.v (.int .i64 a0.2.2.2.2.1))])] ∧ leH h [] ∧ r = spec_l25Good.res a0 y ∧ h1 = spec_l25Good.out a0 y
theorem spec_l25Good.call {ar : List AV} {h : List (Option LB)} {a0 : Ropeway} {y : Bool} (H : spec_l25Good a0 = some y) (h0 : leLk ar [(.agg [(.v (.int .i64 a0.1)), (.tree ty_Slot a0.2.1), (.v (.int .i64 a0.2.2.1)), (.v (.int .i64 a0.2.2.2.1)), (.v (.int .i64 a0.2.2.2.2.1))])] (leHk h [])) : spec_l25Good.S ar h (spec_l25Good.res a0 y) (spec_l25Good.out a0 y) := ⟨a0, y, H, (args_ok h0).1, (args_ok h0).2, rfl, rfl⟩
set_option maxHeartbeats 100000000 in
set_option maxRecDepth 100000 in
theorem spec_l25Good.spec (a0 : Ropeway) (y : Bool) (H : spec_l25Good a0 = some y) : Spec Tryd.prog 25 [(.agg [(.v (.int .i64 a0.1)), (.tree ty_Slot a0.2.1), (.v (.int .i64 a0.2.2.1)), (.v (.int .i64 a0.2.2.2.1)), (.v (.int .i64 a0.2.2.2.2.1))])] [] (spec_l25Good.res a0 y) (spec_l25Good.out a0 y) := by
  refine spec_intro (G11_ok.at tok []) (ct := [(3, some [1, 3, 39])]) Tryd.func25 rfl (by kernel_rfl) (by kernel_rfl) rfl ?_
  repeat' first
    | ((with_reducible refine eqg ?_); exact rfl)
    | ((with_reducible refine KOb.mk ?_); kernel_rfl)
    | ((with_reducible intro h); (repeat (first | replace H := grd_k H | replace H := out_step H (by assumption))); first | replace H := cond_t h H | replace H := cond_f h H | exact absurd h (by decide) | skip)
    | ((with_reducible refine Ob.mk ?_); first | (with_reducible rfl) | (first | ((repeat (first | (with_reducible exact grd_p H) | (replace H := grd_k H) | (replace H := out_step H (by assumption)))); done) | rfl | ((repeat (first | exact grd_p H | replace H := grd_k H | replace H := out_step H (by assumption))); done) | ((repeat (first | exact grd_p H | (have hp := grd_p H; exact hp) | replace H := grd_k H | replace H := out_step H (by assumption) | (replace H := bind_some H; obtain ⟨_, _, H⟩ := H))); done) | (repeat (first | exact grd_p H | replace H := grd_k H | replace H := out_step H (by assumption)))))
    | (with_reducible exact True.intro)
    | constructor
    | ((conv => whnf); first
        | ((with_reducible refine Ob.mk ?_); first | (with_reducible rfl) | (first | ((repeat (first | (with_reducible exact grd_p H) | (replace H := grd_k H) | (replace H := out_step H (by assumption)))); done) | rfl | ((repeat (first | exact grd_p H | replace H := grd_k H | replace H := out_step H (by assumption))); done) | ((repeat (first | exact grd_p H | (have hp := grd_p H; exact hp) | replace H := grd_k H | replace H := out_step H (by assumption) | (replace H := bind_some H; obtain ⟨_, _, H⟩ := H))); done) | (repeat (first | exact grd_p H | replace H := grd_k H | replace H := out_step H (by assumption)))))
        | ((with_reducible refine CallW.mk ?_); (repeat (first | replace H := grd_k H | replace H := out_step H (by assumption))); replace H := bind_some H; obtain ⟨y, hy, H⟩ := H; first | ((with_reducible have hz : spec_l1In _ _ _ = some y := hy); clear hz; refine Exists.intro _ (Exists.intro _ ⟨spec_l1In.call hy ?_, rfl, rfl, ?_⟩)) | ((with_reducible have hz : spec_l25Slot _ _ = some y := hy); clear hz; refine Exists.intro _ (Exists.intro _ ⟨spec_l25Slot.call hy ?_, rfl, rfl, ?_⟩)))
        | ((repeat (first | replace H := grd_k H | replace H := out_step H (by assumption))); refine loop_iter (G11_ok.at tok []) (ct := [(3, some [1, 3, 39])]) (F := (fun s1 : Int => ⟨sl [(1, (.loc 0 0 0)), (3, (.v (.int .i64 (a0.2.1.length : Int)))), (4, (.v (.int .i64 s1)))], [some (.box 33 [(.v (.int .i64 a0.1)), (.tree ty_Slot a0.2.1), (.v (.int .i64 a0.2.2.1)), (.v (.int .i64 a0.2.2.2.1)), (.v (.int .i64 a0.2.2.2.2.1))])]⟩)) (step := (fun s : Int => spec_l25Good_loop1 _ s)) _ H (by kernel_rfl) (sub_auto ?_) ?_; rotate_left; (intro s1 r v hr H); rotate_right)
        | ((repeat (first | replace H := grd_k H | replace H := out_step H (by assumption))); refine again_step H (by assumption) (sub_auto ?_))
        | ((with_reducible refine fin_mk ?_); (repeat (first | replace H := grd_k H | replace H := out_step H (by assumption))); have H := Option.some.inj H; subst H))
def G12 : Env := G11.add 25 [] spec_l25Good.S
theorem G12_ok : EnvOk Tryd.prog G12 := G11_ok.add ent_25 fun ar h r h1 ⟨a0, y, hy, e1, e2, e3, e4⟩ => by
  subst e3 e4; exact (spec_l25Good.spec a0 y hy).le e1 e2
attribute [local irreducible] spec_l25Good

noncomputable def spec_l1Split_loop1 (a0 : ByteArray) (a1 : Int) (v4 : Int) (v5 : Int) (v6 : (List ByteArray)) : Option (Lp (Int × Int × (List ByteArray)) ((Int × (List ByteArray)))) :=
  (cond (decide (v5 < (a0.size : Int))) (grd (0 ≤ v5 ∧ v5 < (a0.size : Int)) (cond (decide ((bAt a0 v5) = a1)) (grd (0 ≤ v4 ∧ v4 ≤ v5 ∧ v5 ≤ (a0.size : Int)) (grd (v6.length + [(bsub a0 v4 v5)].length ≤ 140737488355328 / 16 ∧ v6.length + [(bsub a0 v4 v5)].length ≤ 140737488355328) (some (.go ((w64 (v5 + (1 : Int))), (w64 (v5 + (1 : Int))), (v6 ++ [(bsub a0 v4 v5)])))))) (some (.go (v4, (w64 (v5 + (1 : Int))), v6))))) ((some (.out (v4, v6)))))
noncomputable def spec_l1Split (a0 : ByteArray) (a1 : Int) : Option ((List ByteArray)) :=
  ((iter (fun s => spec_l1Split_loop1 a0 a1 s.1 s.2.1 s.2.2) ((0 : Int), (0 : Int), ([] : List ByteArray))).bind (fun r7 => (grd (0 ≤ r7.1 ∧ r7.1 ≤ (a0.size : Int) ∧ (a0.size : Int) ≤ (a0.size : Int)) (grd (r7.2.length + [(bsub a0 r7.1 (a0.size : Int))].length ≤ 140737488355328 / 16 ∧ r7.2.length + [(bsub a0 r7.1 (a0.size : Int))].length ≤ 140737488355328) ((some (r7.2 ++ [(bsub a0 r7.1 (a0.size : Int))])))))))
def spec_l1Split.res (_ : ByteArray) (_ : Int) (_ : (List ByteArray)) : AV := (.own 0)
def spec_l1Split.out (_ : ByteArray) (_ : Int) (y : (List ByteArray)) : List (Option LB) := [some (.arr 9 .str y)]
def spec_l1Split.S (ar : List AV) (h : List (Option LB)) (r : AV) (h1 : List (Option LB)) : Prop := ∃ a0 a1 y, spec_l1Split a0 a1 = some y ∧ leL ar [(.v (.string a0)), (.v (.int .u8 a1))] ∧ leH h [] ∧ r = spec_l1Split.res a0 a1 y ∧ h1 = spec_l1Split.out a0 a1 y
theorem spec_l1Split.call {ar : List AV} {h : List (Option LB)} {a0 : ByteArray} {a1 : Int} {y : (List ByteArray)} (H : spec_l1Split a0 a1 = some y) (h0 : leLk ar [(.v (.string a0)), (.v (.int .u8 a1))] (leHk h [])) : spec_l1Split.S ar h (spec_l1Split.res a0 a1 y) (spec_l1Split.out a0 a1 y) := ⟨a0, a1, y, H, (args_ok h0).1, (args_ok h0).2, rfl, rfl⟩
set_option maxHeartbeats 100000000 in
set_option maxRecDepth 100000 in
theorem spec_l1Split.spec (a0 : ByteArray) (a1 : Int) (y : (List ByteArray)) (H : spec_l1Split a0 a1 = some y) : Spec Tryd.prog 48 [(.v (.string a0)), (.v (.int .u8 a1))] [] (spec_l1Split.res a0 a1 y) (spec_l1Split.out a0 a1 y) := by
  refine spec_intro (G12_ok.at tok []) (ct := [(8, some [0, 1, 5, 7])]) Tryd.func48 rfl (by kernel_rfl) (by kernel_rfl) rfl ?_
  repeat' first
    | ((with_reducible refine eqg ?_); exact rfl)
    | ((with_reducible refine KOb.mk ?_); kernel_rfl)
    | ((with_reducible intro h); (repeat (first | replace H := grd_k H | replace H := out_step H (by assumption))); first | replace H := cond_t h H | replace H := cond_f h H | exact absurd h (by decide) | skip)
    | ((with_reducible refine Ob.mk ?_); first | (with_reducible rfl) | (first | ((repeat (first | (with_reducible exact grd_p H) | (replace H := grd_k H) | (replace H := out_step H (by assumption)))); done) | rfl | ((repeat (first | exact grd_p H | replace H := grd_k H | replace H := out_step H (by assumption))); done) | ((repeat (first | exact grd_p H | (have hp := grd_p H; exact hp) | replace H := grd_k H | replace H := out_step H (by assumption) | (replace H := bind_some H; obtain ⟨_, _, H⟩ := H))); done) | (repeat (first | exact grd_p H | replace H := grd_k H | replace H := out_step H (by assumption)))))
    | (with_reducible exact True.intro)
    | constructor
    | ((conv => whnf); first
        | ((with_reducible refine Ob.mk ?_); first | (with_reducible rfl) | (first | ((repeat (first | (with_reducible exact grd_p H) | (replace H := grd_k H) | (replace H := out_step H (by assumption)))); done) | rfl | ((repeat (first | exact grd_p H | replace H := grd_k H | replace H := out_step H (by assumption))); done) | ((repeat (first | exact grd_p H | (have hp := grd_p H; exact hp) | replace H := grd_k H | replace H := out_step H (by assumption) | (replace H := bind_some H; obtain ⟨_, _, H⟩ := H))); done) | (repeat (first | exact grd_p H | replace H := grd_k H | replace H := out_step H (by assumption)))))
        | ((repeat (first | replace H := grd_k H | replace H := out_step H (by assumption))); refine loop_iter (G12_ok.at tok []) (ct := [(8, some [0, 1, 5, 7])]) (F := (fun s1 : Int × Int × (List ByteArray) => ⟨sl [(0, (.v (.string a0))), (1, (.v (.int .u8 a1))), (5, (.own 0)), (6, (.v (.int .i64 s1.1))), (7, (.v (.int .i64 s1.2.1)))], [some (.arr 9 .str s1.2.2)]⟩)) (step := (fun s : Int × Int × (List ByteArray) => spec_l1Split_loop1 _ _ s.1 s.2.1 s.2.2)) _ H (by kernel_rfl) (sub_auto ?_) ?_; rotate_left; (intro s1 r v hr H); rotate_right)
        | ((repeat (first | replace H := grd_k H | replace H := out_step H (by assumption))); refine again_step H (by assumption) (sub_auto ?_))
        | ((with_reducible refine fin_mk ?_); (repeat (first | replace H := grd_k H | replace H := out_step H (by assumption))); have H := Option.some.inj H; subst H))
def G13 : Env := G12.add 48 [] spec_l1Split.S
theorem G13_ok : EnvOk Tryd.prog G13 := G12_ok.add ent_48 fun ar h r h1 ⟨a0, a1, y, hy, e1, e2, e3, e4⟩ => by
  subst e3 e4; exact (spec_l1Split.spec a0 a1 y hy).le e1 e2
attribute [local irreducible] spec_l1Split

noncomputable def spec_l1Num_f : Nat → Int → Option (ByteArray)
  | 0, _ => none
  | k + 1, a0 => (cond (decide (a0 < (0 : Int))) ((spec_l1Num_f k (w64 (0 - a0))).bind fun y1 => (grd ((ByteArray.mk #[45]).size + y1.size ≤ 9223372036854775807) ((some ((ByteArray.mk #[45]) ++ y1))))) (cond (decide (a0 < (10 : Int))) (grd (0 ≤ a0 ∧ a0 ≤ (w64 (a0 + (1 : Int))) ∧ (w64 (a0 + (1 : Int))) ≤ ((ByteArray.mk #[48, 49, 50, 51, 52, 53, 54, 55, 56, 57]).size : Int)) ((some (bsub (ByteArray.mk #[48, 49, 50, 51, 52, 53, 54, 55, 56, 57]) a0 (w64 (a0 + (1 : Int))))))) (grd ((10 : Int) ≠ 0) ((spec_l1Num_f k (w64 (Int.tdiv a0 (10 : Int)))).bind fun y2 => (grd ((10 : Int) ≠ 0) (grd ((10 : Int) ≠ 0) (grd (0 ≤ (Int.tmod a0 (10 : Int)) ∧ (Int.tmod a0 (10 : Int)) ≤ (w64 ((Int.tmod a0 (10 : Int)) + (1 : Int))) ∧ (w64 ((Int.tmod a0 (10 : Int)) + (1 : Int))) ≤ ((ByteArray.mk #[48, 49, 50, 51, 52, 53, 54, 55, 56, 57]).size : Int)) (grd (y2.size + (bsub (ByteArray.mk #[48, 49, 50, 51, 52, 53, 54, 55, 56, 57]) (Int.tmod a0 (10 : Int)) (w64 ((Int.tmod a0 (10 : Int)) + (1 : Int)))).size ≤ 9223372036854775807) ((some (y2 ++ (bsub (ByteArray.mk #[48, 49, 50, 51, 52, 53, 54, 55, 56, 57]) (Int.tmod a0 (10 : Int)) (w64 ((Int.tmod a0 (10 : Int)) + (1 : Int)))))))))))))))
theorem spec_l1Num_f_succ (k : Nat) (a0 : Int) : spec_l1Num_f (k + 1) a0 = (cond (decide (a0 < (0 : Int))) ((spec_l1Num_f k (w64 (0 - a0))).bind fun y1 => (grd ((ByteArray.mk #[45]).size + y1.size ≤ 9223372036854775807) ((some ((ByteArray.mk #[45]) ++ y1))))) (cond (decide (a0 < (10 : Int))) (grd (0 ≤ a0 ∧ a0 ≤ (w64 (a0 + (1 : Int))) ∧ (w64 (a0 + (1 : Int))) ≤ ((ByteArray.mk #[48, 49, 50, 51, 52, 53, 54, 55, 56, 57]).size : Int)) ((some (bsub (ByteArray.mk #[48, 49, 50, 51, 52, 53, 54, 55, 56, 57]) a0 (w64 (a0 + (1 : Int))))))) (grd ((10 : Int) ≠ 0) ((spec_l1Num_f k (w64 (Int.tdiv a0 (10 : Int)))).bind fun y2 => (grd ((10 : Int) ≠ 0) (grd ((10 : Int) ≠ 0) (grd (0 ≤ (Int.tmod a0 (10 : Int)) ∧ (Int.tmod a0 (10 : Int)) ≤ (w64 ((Int.tmod a0 (10 : Int)) + (1 : Int))) ∧ (w64 ((Int.tmod a0 (10 : Int)) + (1 : Int))) ≤ ((ByteArray.mk #[48, 49, 50, 51, 52, 53, 54, 55, 56, 57]).size : Int)) (grd (y2.size + (bsub (ByteArray.mk #[48, 49, 50, 51, 52, 53, 54, 55, 56, 57]) (Int.tmod a0 (10 : Int)) (w64 ((Int.tmod a0 (10 : Int)) + (1 : Int)))).size ≤ 9223372036854775807) ((some (y2 ++ (bsub (ByteArray.mk #[48, 49, 50, 51, 52, 53, 54, 55, 56, 57]) (Int.tmod a0 (10 : Int)) (w64 ((Int.tmod a0 (10 : Int)) + (1 : Int))))))))))))))) := rfl
attribute [local irreducible] spec_l1Num_f
noncomputable def spec_l1Num (a0 : Int) : Option (ByteArray) := spec_l1Num_f 64 a0
def spec_l1Num.res (_ : Int) (y : ByteArray) : AV := (.v (.string y))
def spec_l1Num.out (_ : Int) (_ : ByteArray) : List (Option LB) := []
def spec_l1Num.S (ar : List AV) (h : List (Option LB)) (r : AV) (h1 : List (Option LB)) : Prop := ∃ a0 y, spec_l1Num a0 = some y ∧ leL ar [(.v (.int .i64 a0))] ∧ leH h [] ∧ r = spec_l1Num.res a0 y ∧ h1 = spec_l1Num.out a0 y
theorem spec_l1Num.call {ar : List AV} {h : List (Option LB)} {a0 : Int} {y : ByteArray} (H : spec_l1Num a0 = some y) (h0 : leLk ar [(.v (.int .i64 a0))] (leHk h [])) : spec_l1Num.S ar h (spec_l1Num.res a0 y) (spec_l1Num.out a0 y) := ⟨a0, y, H, (args_ok h0).1, (args_ok h0).2, rfl, rfl⟩
def spec_l1Num_f.S (k : Nat) (ar : List AV) (h : List (Option LB)) (r : AV) (h1 : List (Option LB)) : Prop := ∃ a0 y, spec_l1Num_f k a0 = some y ∧ leL ar [(.v (.int .i64 a0))] ∧ leH h [] ∧ r = spec_l1Num.res a0 y ∧ h1 = spec_l1Num.out a0 y
theorem spec_l1Num_f.call {k : Nat} {ar : List AV} {h : List (Option LB)} {a0 : Int} {y : ByteArray} (H : spec_l1Num_f k a0 = some y) (h0 : leLk ar [(.v (.int .i64 a0))] (leHk h [])) : spec_l1Num_f.S k ar h (spec_l1Num.res a0 y) (spec_l1Num.out a0 y) := ⟨a0, y, H, (args_ok h0).1, (args_ok h0).2, rfl, rfl⟩
set_option maxHeartbeats 100000000 in
set_option maxRecDepth 100000 in
theorem spec_l1Num_f.spec (k : Nat) : ∀ (a0 : Int) (y : ByteArray) (_ : spec_l1Num_f k a0 = some y), Spec Tryd.prog 21 [(.v (.int .i64 a0))] [] (spec_l1Num.res a0 y) (spec_l1Num.out a0 y) := by
  induction k with
  | zero => intro a0 y H; unfold spec_l1Num_f at H; cases H
  | succ k IH =>
  intro a0 y H
  have H := (spec_l1Num_f_succ k a0).symm.trans H
  have hG : EnvOk Tryd.prog (G13.add 21 [] (spec_l1Num_f.S k)) := G13_ok.add ent_21 fun ar h r h1 ⟨a0, y, hy, e1, e2, e3, e4⟩ => by
    subst e3 e4; exact (IH a0 y hy).le e1 e2
  clear IH
  refine spec_intro (hG.at tok []) (ct := [(5, some [0])]) Tryd.func21 rfl (by kernel_rfl) (by kernel_rfl) rfl ?_
  repeat' first
    | ((with_reducible refine eqg ?_); exact rfl)
    | ((with_reducible refine KOb.mk ?_); kernel_rfl)
    | ((with_reducible intro h); (repeat (first | replace H := grd_k H | replace H := out_step H (by assumption))); first | replace H := cond_t h H | replace H := cond_f h H | exact absurd h (by decide) | skip)
    | ((with_reducible refine Ob.mk ?_); first | (with_reducible rfl) | (first | ((repeat (first | (with_reducible exact grd_p H) | (replace H := grd_k H) | (replace H := out_step H (by assumption)))); done) | rfl | ((repeat (first | exact grd_p H | replace H := grd_k H | replace H := out_step H (by assumption))); done) | ((repeat (first | exact grd_p H | (have hp := grd_p H; exact hp) | replace H := grd_k H | replace H := out_step H (by assumption) | (replace H := bind_some H; obtain ⟨_, _, H⟩ := H))); done) | (repeat (first | exact grd_p H | replace H := grd_k H | replace H := out_step H (by assumption)))))
    | (with_reducible exact True.intro)
    | constructor
    | ((conv => whnf); first
        | ((with_reducible refine Ob.mk ?_); first | (with_reducible rfl) | (first | ((repeat (first | (with_reducible exact grd_p H) | (replace H := grd_k H) | (replace H := out_step H (by assumption)))); done) | rfl | ((repeat (first | exact grd_p H | replace H := grd_k H | replace H := out_step H (by assumption))); done) | ((repeat (first | exact grd_p H | (have hp := grd_p H; exact hp) | replace H := grd_k H | replace H := out_step H (by assumption) | (replace H := bind_some H; obtain ⟨_, _, H⟩ := H))); done) | (repeat (first | exact grd_p H | replace H := grd_k H | replace H := out_step H (by assumption)))))
        | ((with_reducible refine CallW.mk ?_); (repeat (first | replace H := grd_k H | replace H := out_step H (by assumption))); replace H := bind_some H; obtain ⟨y, hy, H⟩ := H; first | ((with_reducible have hz : spec_l1Num_f k _ = some y := hy); clear hz; refine Exists.intro _ (Exists.intro _ ⟨spec_l1Num_f.call hy ?_, rfl, rfl, ?_⟩)))
        | ((with_reducible refine fin_mk ?_); (repeat (first | replace H := grd_k H | replace H := out_step H (by assumption))); have H := Option.some.inj H; subst H))
theorem spec_l1Num.spec (a0 : Int) (y : ByteArray) (H : spec_l1Num a0 = some y) : Spec Tryd.prog 21 [(.v (.int .i64 a0))] [] (spec_l1Num.res a0 y) (spec_l1Num.out a0 y) := spec_l1Num_f.spec 64 a0 y H
def G14 : Env := G13.add 21 [] spec_l1Num.S
theorem G14_ok : EnvOk Tryd.prog G14 := G13_ok.add ent_21 fun ar h r h1 ⟨a0, y, hy, e1, e2, e3, e4⟩ => by
  subst e3 e4; exact (spec_l1Num.spec a0 y hy).le e1 e2
attribute [local irreducible] spec_l1Num

end Go.Proofs.YtdlngdmdebpadaaDoor
