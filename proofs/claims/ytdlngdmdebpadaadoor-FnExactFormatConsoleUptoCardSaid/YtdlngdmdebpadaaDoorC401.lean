/-
  Contracts, printed by a program.
-/
import Derived.Test.YtdlngdmdebpadaaDoorXJ
namespace Go.Proofs.YtdlngdmdebpadaaDoor
open Go.RowKit
attribute [local irreducible] Ob loopwp Sub Spec Fin Again CallW CutC KOb iter joinx outm

noncomputable def laws_szSlotS (a0 : (List Slot)) (a1 : Int) : Option (Int) :=
  (cond (decide ((w64 (a1 - (a0.length : Int))) < (0 : Int))) ((some ((-1) : Int))) ((some (w64 (a1 - (a0.length : Int))))))
def laws_szSlotS.res (_ : (List Slot)) (_ : Int) (y : Int) : AV := (.v (.int .i64 y))
def laws_szSlotS.out (_ : (List Slot)) (_ : Int) (_ : Int) : List (Option LB) := []
def laws_szSlotS.S (ar : List AV) (h : List (Option LB)) (r : AV) (h1 : List (Option LB)) : Prop := ∃ a0 a1 y, laws_szSlotS a0 a1 = some y ∧ leL ar [(.tree ty_Slot a0), (.v (.int .i64 a1))] ∧ leH h [] ∧ r = laws_szSlotS.res a0 a1 y ∧ h1 = laws_szSlotS.out a0 a1 y
theorem laws_szSlotS.call {ar : List AV} {h : List (Option LB)} {a0 : (List Slot)} {a1 : Int} {y : Int} (H : laws_szSlotS a0 a1 = some y) (h0 : leLk ar [(.tree ty_Slot a0), (.v (.int .i64 a1))] (leHk h [])) : laws_szSlotS.S ar h (laws_szSlotS.res a0 a1 y) (laws_szSlotS.out a0 a1 y) := ⟨a0, a1, y, H, (args_ok h0).1, (args_ok h0).2, rfl, rfl⟩
set_option maxHeartbeats 100000000 in
set_option maxRecDepth 100000 in
theorem laws_szSlotS.spec (a0 : (List Slot)) (a1 : Int) (y : Int) (H : laws_szSlotS a0 a1 = some y) : Spec Tryd.prog 24 [(.tree ty_Slot a0), (.v (.int .i64 a1))] [] (laws_szSlotS.res a0 a1 y) (laws_szSlotS.out a0 a1 y) := by
  refine spec_intro (G0_ok.at tok []) (ct := []) Tryd.func24 rfl (by kernel_rfl) (by kernel_rfl) rfl ?_
  repeat' first
    | ((with_reducible refine eqg ?_); exact rfl)
    | ((with_reducible refine KOb.mk ?_); kernel_rfl)
    | ((with_reducible intro h); (repeat (first | replace H := grd_k H | replace H := out_step H (by assumption))); first | replace H := cond_t h H | replace H := cond_f h H | exact absurd h (by decide) | skip)
    | ((with_reducible refine Ob.mk ?_); first | (with_reducible rfl) | (first | ((repeat (first | (with_reducible exact grd_p H) | (replace H := grd_k H) | (replace H := out_step H (by assumption)))); done) | rfl | ((repeat (first | exact grd_p H | replace H := grd_k H | replace H := out_step H (by assumption))); done) | ((repeat (first | exact grd_p H | (have hp := grd_p H; exact hp) | replace H := grd_k H | replace H := out_step H (by assumption) | (replace H := bind_some H; obtain ⟨_, _, H⟩ := H))); done) | (repeat (first | exact grd_p H | replace H := grd_k H | replace H := out_step H (by assumption)))))
    | (with_reducible exact True.intro)
    | constructor
    | ((conv => whnf); first
        | ((with_reducible refine Ob.mk ?_); first | (with_reducible rfl) | (first | ((repeat (first | (with_reducible exact grd_p H) | (replace H := grd_k H) | (replace H := out_step H (by assumption)))); done) | rfl | ((repeat (first | exact grd_p H | replace H := grd_k H | replace H := out_step H (by assumption))); done) | ((repeat (first | exact grd_p H | (have hp := grd_p H; exact hp) | replace H := grd_k H | replace H := out_step H (by assumption) | (replace H := bind_some H; obtain ⟨_, _, H⟩ := H))); done) | (repeat (first | exact grd_p H | replace H := grd_k H | replace H := out_step H (by assumption)))))
        | ((with_reducible refine fin_mk ?_); (repeat (first | replace H := grd_k H | replace H := out_step H (by assumption))); have H := Option.some.inj H; subst H))
def G1 : Env := G0.add 24 [] laws_szSlotS.S
theorem G1_ok : EnvOk Tryd.prog G1 := G0_ok.add ent_24 fun ar h r h1 ⟨a0, a1, y, hy, e1, e2, e3, e4⟩ => by
  subst e3 e4; exact (laws_szSlotS.spec a0 a1 y hy).le e1 e2
attribute [local irreducible] laws_szSlotS

noncomputable def laws_szRopeway (a0 : Ropeway) (a1 : Int) : Option (Int) :=
  ((laws_szSlotS a0.2.1 a1).bind fun y1 => (cond (decide (y1 < (0 : Int))) ((some ((-1) : Int))) ((some y1))))
def laws_szRopeway.res (_ : Ropeway) (_ : Int) (y : Int) : AV := (.v (.int .i64 y))
def laws_szRopeway.out (_ : Ropeway) (_ : Int) (_ : Int) : List (Option LB) := []
def laws_szRopeway.S (ar : List AV) (h : List (Option LB)) (r : AV) (h1 : List (Option LB)) : Prop := ∃ a0 a1 y, laws_szRopeway a0 a1 = some y ∧ leL ar [(.agg [(.v (.int .i64 a0.1)), (.tree ty_Slot a0.2.1), (.v (.int .i64 a0.2.2.1)), (.v (.int .i64 a0.2.2.2.1)), (.v (.int .i64 a0.2.2.2.2.1))]), (.v (.int .i64 a1))] ∧ leH h [] ∧ r = laws_szRopeway.res a0 a1 y ∧ h1 = laws_szRopeway.out a0 a1 y
theorem laws_szRopeway.call {ar : List AV} {h : List (Option LB)} {a0 : Ropeway} {a1 : Int} {y : Int} (H : laws_szRopeway a0 a1 = some y) (h0 : leLk ar [(.agg [(.v (.int .i64 a0.1)), (.tree ty_Slot a0.2.1), (.v (.int .i64 a0.2.2.1)), (.v (.int .i64 a0.2.2.2.1)), (.v (.int .i64 a0.2.2.2.2.1))]), (.v (.int .i64 a1))] (leHk h [])) : laws_szRopeway.S ar h (laws_szRopeway.res a0 a1 y) (laws_szRopeway.out a0 a1 y) := ⟨a0, a1, y, H, (args_ok h0).1, (args_ok h0).2, rfl, rfl⟩
set_option maxHeartbeats 100000000 in
set_option maxRecDepth 100000 in
theorem laws_szRopeway.spec (a0 : Ropeway) (a1 : Int) (y : Int) (H : laws_szRopeway a0 a1 = some y) : Spec Tryd.prog 12 [(.agg [(.v (.int .i64 a0.1)), (.tree ty_Slot a0.2.1), (.v (.int .i64 a0.2.2.1)), (.v (.int .i64 a0.2.2.2.1)), (.v (.int .i64 a0.2.2.2.2.1))]), (.v (.int .i64 a1))] [] (laws_szRopeway.res a0 a1 y) (laws_szRopeway.out a0 a1 y) := by
  refine spec_intro (G1_ok.at tok []) (ct := []) Tryd.func12 rfl (by kernel_rfl) (by kernel_rfl) rfl ?_
  repeat' first
    | ((with_reducible refine eqg ?_); exact rfl)
    | ((with_reducible refine KOb.mk ?_); kernel_rfl)
    | ((with_reducible intro h); (repeat (first | replace H := grd_k H | replace H := out_step H (by assumption))); first | replace H := cond_t h H | replace H := cond_f h H | exact absurd h (by decide) | skip)
    | ((with_reducible refine Ob.mk ?_); first | (with_reducible rfl) | (first | ((repeat (first | (with_reducible exact grd_p H) | (replace H := grd_k H) | (replace H := out_step H (by assumption)))); done) | rfl | ((repeat (first | exact grd_p H | replace H := grd_k H | replace H := out_step H (by assumption))); done) | ((repeat (first | exact grd_p H | (have hp := grd_p H; exact hp) | replace H := grd_k H | replace H := out_step H (by assumption) | (replace H := bind_some H; obtain ⟨_, _, H⟩ := H))); done) | (repeat (first | exact grd_p H | replace H := grd_k H | replace H := out_step H (by assumption)))))
    | (with_reducible exact True.intro)
    | constructor
    | ((conv => whnf); first
        | ((with_reducible refine Ob.mk ?_); first | (with_reducible rfl) | (first | ((repeat (first | (with_reducible exact grd_p H) | (replace H := grd_k H) | (replace H := out_step H (by assumption)))); done) | rfl | ((repeat (first | exact grd_p H | replace H := grd_k H | replace H := out_step H (by assumption))); done) | ((repeat (first | exact grd_p H | (have hp := grd_p H; exact hp) | replace H := grd_k H | replace H := out_step H (by assumption) | (replace H := bind_some H; obtain ⟨_, _, H⟩ := H))); done) | (repeat (first | exact grd_p H | replace H := grd_k H | replace H := out_step H (by assumption)))))
        | ((with_reducible refine CallW.mk ?_); (repeat (first | replace H := grd_k H | replace H := out_step H (by assumption))); replace H := bind_some H; obtain ⟨y, hy, H⟩ := H; first | ((with_reducible have hz : laws_szSlotS _ _ = some y := hy); clear hz; refine Exists.intro _ (Exists.intro _ ⟨laws_szSlotS.call hy ?_, rfl, rfl, ?_⟩)))
        | ((with_reducible refine fin_mk ?_); (repeat (first | replace H := grd_k H | replace H := out_step H (by assumption))); have H := Option.some.inj H; subst H))
def G2 : Env := G1.add 12 [] laws_szRopeway.S
theorem G2_ok : EnvOk Tryd.prog G2 := G1_ok.add ent_12 fun ar h r h1 ⟨a0, a1, y, hy, e1, e2, e3, e4⟩ => by
  subst e3 e4; exact (laws_szRopeway.spec a0 a1 y hy).le e1 e2
attribute [local irreducible] laws_szRopeway

noncomputable def laws_szLog (a0 : Log) (a1 : Int) : Option (Int) :=
  (cond (decide ((w64 (a1 - (a0.1.size : Int))) < (0 : Int))) ((some ((-1) : Int))) (cond (decide ((w64 ((w64 (a1 - (a0.1.size : Int))) - (a0.2.1.size : Int))) < (0 : Int))) ((some ((-1) : Int))) ((some (w64 ((w64 (a1 - (a0.1.size : Int))) - (a0.2.1.size : Int)))))))
def laws_szLog.res (_ : Log) (_ : Int) (y : Int) : AV := (.v (.int .i64 y))
def laws_szLog.out (_ : Log) (_ : Int) (_ : Int) : List (Option LB) := []
def laws_szLog.S (ar : List AV) (h : List (Option LB)) (r : AV) (h1 : List (Option LB)) : Prop := ∃ a0 a1 y, laws_szLog a0 a1 = some y ∧ leL ar [(.agg [(.v (.string a0.1)), (.v (.string a0.2.1)), (.v (.int .i64 a0.2.2.1))]), (.v (.int .i64 a1))] ∧ leH h [] ∧ r = laws_szLog.res a0 a1 y ∧ h1 = laws_szLog.out a0 a1 y
theorem laws_szLog.call {ar : List AV} {h : List (Option LB)} {a0 : Log} {a1 : Int} {y : Int} (H : laws_szLog a0 a1 = some y) (h0 : leLk ar [(.agg [(.v (.string a0.1)), (.v (.string a0.2.1)), (.v (.int .i64 a0.2.2.1))]), (.v (.int .i64 a1))] (leHk h [])) : laws_szLog.S ar h (laws_szLog.res a0 a1 y) (laws_szLog.out a0 a1 y) := ⟨a0, a1, y, H, (args_ok h0).1, (args_ok h0).2, rfl, rfl⟩
set_option maxHeartbeats 100000000 in
set_option maxRecDepth 100000 in
theorem laws_szLog.spec (a0 : Log) (a1 : Int) (y : Int) (H : laws_szLog a0 a1 = some y) : Spec Tryd.prog 13 [(.agg [(.v (.string a0.1)), (.v (.string a0.2.1)), (.v (.int .i64 a0.2.2.1))]), (.v (.int .i64 a1))] [] (laws_szLog.res a0 a1 y) (laws_szLog.out a0 a1 y) := by
  refine spec_intro (G2_ok.at tok []) (ct := [(5, some [1])]) Tryd.func13 rfl (by kernel_rfl) (by kernel_rfl) rfl ?_
  repeat' first
    | ((with_reducible refine eqg ?_); exact rfl)
    | ((with_reducible refine KOb.mk ?_); kernel_rfl)
    | ((with_reducible intro h); (repeat (first | replace H := grd_k H | replace H := out_step H (by assumption))); first | replace H := cond_t h H | replace H := cond_f h H | exact absurd h (by decide) | skip)
    | ((with_reducible refine Ob.mk ?_); first | (with_reducible rfl) | (first | ((repeat (first | (with_reducible exact grd_p H) | (replace H := grd_k H) | (replace H := out_step H (by assumption)))); done) | rfl | ((repeat (first | exact grd_p H | replace H := grd_k H | replace H := out_step H (by assumption))); done) | ((repeat (first | exact grd_p H | (have hp := grd_p H; exact hp) | replace H := grd_k H | replace H := out_step H (by assumption) | (replace H := bind_some H; obtain ⟨_, _, H⟩ := H))); done) | (repeat (first | exact grd_p H | replace H := grd_k H | replace H := out_step H (by assumption)))))
    | (with_reducible exact True.intro)
    | constructor
    | ((conv => whnf); first
        | ((with_reducible refine Ob.mk ?_); first | (with_reducible rfl) | (first | ((repeat (first | (with_reducible exact grd_p H) | (replace H := grd_k H) | (replace H := out_step H (by assumption)))); done) | rfl | ((repeat (first | exact grd_p H | replace H := grd_k H | replace H := out_step H (by assumption))); done) | ((repeat (first | exact grd_p H | (have hp := grd_p H; exact hp) | replace H := grd_k H | replace H := out_step H (by assumption) | (replace H := bind_some H; obtain ⟨_, _, H⟩ := H))); done) | (repeat (first | exact grd_p H | replace H := grd_k H | replace H := out_step H (by assumption)))))
        | ((with_reducible refine fin_mk ?_); (repeat (first | replace H := grd_k H | replace H := out_step H (by assumption))); have H := Option.some.inj H; subst H))
def G3 : Env := G2.add 13 [] laws_szLog.S
theorem G3_ok : EnvOk Tryd.prog G3 := G2_ok.add ent_13 fun ar h r h1 ⟨a0, a1, y, hy, e1, e2, e3, e4⟩ => by
  subst e3 e4; exact (laws_szLog.spec a0 a1 y hy).le e1 e2
attribute [local irreducible] laws_szLog

noncomputable def laws_szConsole (a0 : Console) (a1 : Int) : Option (Int) :=
  ((laws_szRopeway (a0.1.1, a0.1.2.1, a0.1.2.2.1, a0.1.2.2.2.1, a0.1.2.2.2.2.1, ()) a1).bind fun y1 => (cond (decide (y1 < (0 : Int))) ((some ((-1) : Int))) ((laws_szLog (a0.2.1.1, a0.2.1.2.1, a0.2.1.2.2.1, ()) y1).bind fun y2 => (cond (decide (y2 < (0 : Int))) ((some ((-1) : Int))) ((some y2))))))
def laws_szConsole.res (_ : Console) (_ : Int) (y : Int) : AV := (.v (.int .i64 y))
def laws_szConsole.out (_ : Console) (_ : Int) (_ : Int) : List (Option LB) := []
def laws_szConsole.S (ar : List AV) (h : List (Option LB)) (r : AV) (h1 : List (Option LB)) : Prop := ∃ a0 a1 y, laws_szConsole a0 a1 = some y ∧ leL ar [(.agg [(.v (.int .i64 a0.1.1)), (.tree ty_Slot a0.1.2.1), (.v (.int .i64 a0.1.2.2.1)), (.v (.int .i64 a0.1.2.2.2.1)), (.v (.int .i64 a0.1.2.2.2.2.1)), (.v (.string a0.2.1.1)), (.v (.string a0.2.1.2.1)), (.v (.int .i64 a0.2.1.2.2.1))]), (.v (.int .i64 a1))] ∧ leH h [] ∧ r = laws_szConsole.res a0 a1 y ∧ h1 = laws_szConsole.out a0 a1 y
theorem laws_szConsole.call {ar : List AV} {h : List (Option LB)} {a0 : Console} {a1 : Int} {y : Int} (H : laws_szConsole a0 a1 = some y) (h0 : leLk ar [(.agg [(.v (.int .i64 a0.1.1)), (.tree ty_Slot a0.1.2.1), (.v (.int .i64 a0.1.2.2.1)), (.v (.int .i64 a0.1.2.2.2.1)), (.v (.int .i64 a0.1.2.2.2.2.1)), (.v (.string a0.2.1.1)), (.v (.string a0.2.1.2.1)), (.v (.int .i64 a0.2.1.2.2.1))]), (.v (.int .i64 a1))] (leHk h [])) : laws_szConsole.S ar h (laws_szConsole.res a0 a1 y) (laws_szConsole.out a0 a1 y) := ⟨a0, a1, y, H, (args_ok h0).1, (args_ok h0).2, rfl, rfl⟩
set_option maxHeartbeats 100000000 in
set_option maxRecDepth 100000 in
theorem laws_szConsole.spec (a0 : Console) (a1 : Int) (y : Int) (H : laws_szConsole a0 a1 = some y) : Spec Tryd.prog 5 [(.agg [(.v (.int .i64 a0.1.1)), (.tree ty_Slot a0.1.2.1), (.v (.int .i64 a0.1.2.2.1)), (.v (.int .i64 a0.1.2.2.2.1)), (.v (.int .i64 a0.1.2.2.2.2.1)), (.v (.string a0.2.1.1)), (.v (.string a0.2.1.2.1)), (.v (.int .i64 a0.2.1.2.2.1))]), (.v (.int .i64 a1))] [] (laws_szConsole.res a0 a1 y) (laws_szConsole.out a0 a1 y) := by
  refine spec_intro (G3_ok.at tok []) (ct := [(5, some [1])]) Tryd.func5 rfl (by kernel_rfl) (by kernel_rfl) rfl ?_
  repeat' first
    | ((with_reducible refine eqg ?_); exact rfl)
    | ((with_reducible refine KOb.mk ?_); kernel_rfl)
    | ((with_reducible intro h); (repeat (first | replace H := grd_k H | replace H := out_step H (by assumption))); first | replace H := cond_t h H | replace H := cond_f h H | exact absurd h (by decide) | skip)
    | ((with_reducible refine Ob.mk ?_); first | (with_reducible rfl) | (first | ((repeat (first | (with_reducible exact grd_p H) | (replace H := grd_k H) | (replace H := out_step H (by assumption)))); done) | rfl | ((repeat (first | exact grd_p H | replace H := grd_k H | replace H := out_step H (by assumption))); done) | ((repeat (first | exact grd_p H | (have hp := grd_p H; exact hp) | replace H := grd_k H | replace H := out_step H (by assumption) | (replace H := bind_some H; obtain ⟨_, _, H⟩ := H))); done) | (repeat (first | exact grd_p H | replace H := grd_k H | replace H := out_step H (by assumption)))))
    | (with_reducible exact True.intro)
    | constructor
    | ((conv => whnf); first
        | ((with_reducible refine Ob.mk ?_); first | (with_reducible rfl) | (first | ((repeat (first | (with_reducible exact grd_p H) | (replace H := grd_k H) | (replace H := out_step H (by assumption)))); done) | rfl | ((repeat (first | exact grd_p H | replace H := grd_k H | replace H := out_step H (by assumption))); done) | ((repeat (first | exact grd_p H | (have hp := grd_p H; exact hp) | replace H := grd_k H | replace H := out_step H (by assumption) | (replace H := bind_some H; obtain ⟨_, _, H⟩ := H))); done) | (repeat (first | exact grd_p H | replace H := grd_k H | replace H := out_step H (by assumption)))))
        | ((with_reducible refine CallW.mk ?_); (repeat (first | replace H := grd_k H | replace H := out_step H (by assumption))); replace H := bind_some H; obtain ⟨y, hy, H⟩ := H; first | ((with_reducible have hz : laws_szRopeway _ _ = some y := hy); clear hz; refine Exists.intro _ (Exists.intro _ ⟨laws_szRopeway.call hy ?_, rfl, rfl, ?_⟩)) | ((with_reducible have hz : laws_szLog _ _ = some y := hy); clear hz; refine Exists.intro _ (Exists.intro _ ⟨laws_szLog.call hy ?_, rfl, rfl, ?_⟩)))
        | ((with_reducible refine fin_mk ?_); (repeat (first | replace H := grd_k H | replace H := out_step H (by assumption))); have H := Option.some.inj H; subst H))
def G4 : Env := G3.add 5 [] laws_szConsole.S
theorem G4_ok : EnvOk Tryd.prog G4 := G3_ok.add ent_5 fun ar h r h1 ⟨a0, a1, y, hy, e1, e2, e3, e4⟩ => by
  subst e3 e4; exact (laws_szConsole.spec a0 a1 y hy).le e1 e2
attribute [local irreducible] laws_szConsole

noncomputable def laws_toSlot (a0 : Slot) : Option (Slot) :=
  (some (a0.1, a0.2.1, a0.2.2.1, ()))
def laws_toSlot.res (_ : Slot) (y : Slot) : AV := (.agg [(.v (.int .i64 y.1)), (.bl y.2.1), (.v (.int .i64 y.2.2.1))])
def laws_toSlot.out (_ : Slot) (_ : Slot) : List (Option LB) := []
def laws_toSlot.S (ar : List AV) (h : List (Option LB)) (r : AV) (h1 : List (Option LB)) : Prop := ∃ a0 y, laws_toSlot a0 = some y ∧ leL ar [(.agg [(.v (.int .i64 a0.1)), (.bl a0.2.1), (.v (.int .i64 a0.2.2.1))])] ∧ leH h [] ∧ r = laws_toSlot.res a0 y ∧ h1 = laws_toSlot.out a0 y
theorem laws_toSlot.call {ar : List AV} {h : List (Option LB)} {a0 : Slot} {y : Slot} (H : laws_toSlot a0 = some y) (h0 : leLk ar [(.agg [(.v (.int .i64 a0.1)), (.bl a0.2.1), (.v (.int .i64 a0.2.2.1))])] (leHk h [])) : laws_toSlot.S ar h (laws_toSlot.res a0 y) (laws_toSlot.out a0 y) := ⟨a0, y, H, (args_ok h0).1, (args_ok h0).2, rfl, rfl⟩
set_option maxHeartbeats 100000000 in
set_option maxRecDepth 100000 in
theorem laws_toSlot.spec (a0 : Slot) (y : Slot) (H : laws_toSlot a0 = some y) : Spec Tryd.prog 41 [(.agg [(.v (.int .i64 a0.1)), (.bl a0.2.1), (.v (.int .i64 a0.2.2.1))])] [] (laws_toSlot.res a0 y) (laws_toSlot.out a0 y) := by
  refine spec_intro (G4_ok.at tok []) (ct := []) Tryd.func41 rfl (by kernel_rfl) (by kernel_rfl) rfl ?_
  repeat' first
    | ((with_reducible refine eqg ?_); exact rfl)
    | ((with_reducible refine KOb.mk ?_); kernel_rfl)
    | ((with_reducible intro h); (repeat (first | replace H := grd_k H | replace H := out_step H (by assumption))); first | replace H := cond_t h H | replace H := cond_f h H | exact absurd h (by decide) | skip)
    | ((with_reducible refine Ob.mk ?_); first | (with_reducible rfl) | (first | ((repeat (first | (with_reducible exact grd_p H) | (replace H := grd_k H) | (replace H := out_step H (by assumption)))); done) | rfl | ((repeat (first | exact grd_p H | replace H := grd_k H | replace H := out_step H (by assumption))); done) | ((repeat (first | exact grd_p H | (have hp := grd_p H; exact hp) | replace H := grd_k H | replace H := out_step H (by assumption) | (replace H := bind_some H; obtain ⟨_, _, H⟩ := H))); done) | (repeat (first | exact grd_p H | replace H := grd_k H | replace H := out_step H (by assumption)))))
    | (with_reducible exact True.intro)
    | constructor
    | ((conv => whnf); first
        | ((with_reducible refine Ob.mk ?_); first | (with_reducible rfl) | (first | ((repeat (first | (with_reducible exact grd_p H) | (replace H := grd_k H) | (replace H := out_step H (by assumption)))); done) | rfl | ((repeat (first | exact grd_p H | replace H := grd_k H | replace H := out_step H (by assumption))); done) | ((repeat (first | exact grd_p H | (have hp := grd_p H; exact hp) | replace H := grd_k H | replace H := out_step H (by assumption) | (replace H := bind_some H; obtain ⟨_, _, H⟩ := H))); done) | (repeat (first | exact grd_p H | replace H := grd_k H | replace H := out_step H (by assumption)))))
        | ((with_reducible refine fin_mk ?_); (repeat (first | replace H := grd_k H | replace H := out_step H (by assumption))); have H := Option.some.inj H; subst H))
def G5 : Env := G4.add 41 [] laws_toSlot.S
theorem G5_ok : EnvOk Tryd.prog G5 := G4_ok.add ent_41 fun ar h r h1 ⟨a0, y, hy, e1, e2, e3, e4⟩ => by
  subst e3 e4; exact (laws_toSlot.spec a0 y hy).le e1 e2
attribute [local irreducible] laws_toSlot

noncomputable def laws_toSlotS_loop1 (a0 : (List Slot)) (v5 : Int) (v6 : (List Slot)) : Option (Lp (Int × (List Slot)) (((List Slot)))) :=
  (cond (decide (v5 < (a0.length : Int))) (grd (0 ≤ v5 ∧ v5 < (a0.length : Int)) ((laws_toSlot ((a0.getD v5.toNat d_Slot).1, (a0.getD v5.toNat d_Slot).2.1, (a0.getD v5.toNat d_Slot).2.2.1, ())).bind fun y7 => (grd (0 ≤ v5 ∧ v5 < (v6.length : Int)) (some (.go ((w64 (v5 + (1 : Int))), (v6.set v5.toNat (y7.1, y7.2.1, y7.2.2.1, ())))))))) ((some (.out v6))))
noncomputable def laws_toSlotS (a0 : (List Slot)) : Option ((List Slot)) :=
  (grd (0 ≤ (a0.length : Int) ∧ (a0.length : Int) ≤ (a0.length : Int) ∧ (24 : Int) * (a0.length : Int) ≤ 140737488355328 ∧ (a0.length : Int) ≤ 140737488355328) ((iter (fun s => laws_toSlotS_loop1 a0 s.1 s.2) ((0 : Int), (List.replicate (a0.length : Int).toNat ((0 : Int), false, (0 : Int), ())))).bind (fun r8 => (some r8))))
def laws_toSlotS.res (_ : (List Slot)) (_ : (List Slot)) : AV := (.own 0)
def laws_toSlotS.out (_ : (List Slot)) (y : (List Slot)) : List (Option LB) := [some (.arr 51 ty_Slot y)]
def laws_toSlotS.S (ar : List AV) (h : List (Option LB)) (r : AV) (h1 : List (Option LB)) : Prop := ∃ a0 y, laws_toSlotS a0 = some y ∧ leL ar [(.tree ty_Slot a0)] ∧ leH h [] ∧ r = laws_toSlotS.res a0 y ∧ h1 = laws_toSlotS.out a0 y
theorem laws_toSlotS.call {ar : List AV} {h : List (Option LB)} {a0 : (List Slot)} {y : (List Slot)} (H : laws_toSlotS a0 = some y) (h0 : leLk ar [(.tree ty_Slot a0)] (leHk h [])) : laws_toSlotS.S ar h (laws_toSlotS.res a0 y) (laws_toSlotS.out a0 y) := ⟨a0, y, H, (args_ok h0).1, (args_ok h0).2, rfl, rfl⟩
set_option maxHeartbeats 100000000 in
set_option maxRecDepth 100000 in
theorem laws_toSlotS.spec (a0 : (List Slot)) (y : (List Slot)) (H : laws_toSlotS a0 = some y) : Spec Tryd.prog 27 [(.tree ty_Slot a0)] [] (laws_toSlotS.res a0 y) (laws_toSlotS.out a0 y) := by
  refine spec_intro (G5_ok.at tok []) (ct := []) Tryd.func27 rfl (by kernel_rfl) (by kernel_rfl) rfl ?_
  repeat' first
    | ((with_reducible refine eqg ?_); exact rfl)
    | ((with_reducible refine KOb.mk ?_); kernel_rfl)
    | ((with_reducible intro h); (repeat (first | replace H := grd_k H | replace H := out_step H (by assumption))); first | replace H := cond_t h H | replace H := cond_f h H | exact absurd h (by decide) | skip)
    | ((with_reducible refine Ob.mk ?_); first | (with_reducible rfl) | (first | ((repeat (first | (with_reducible exact grd_p H) | (replace H := grd_k H) | (replace H := out_step H (by assumption)))); done) | rfl | ((repeat (first | exact grd_p H | replace H := grd_k H | replace H := out_step H (by assumption))); done) | ((repeat (first | exact grd_p H | (have hp := grd_p H; exact hp) | replace H := grd_k H | replace H := out_step H (by assumption) | (replace H := bind_some H; obtain ⟨_, _, H⟩ := H))); done) | (repeat (first | exact grd_p H | replace H := grd_k H | replace H := out_step H (by assumption)))))
    | (with_reducible exact True.intro)
    | constructor
    | ((conv => whnf); first
        | ((with_reducible refine Ob.mk ?_); first | (with_reducible rfl) | (first | ((repeat (first | (with_reducible exact grd_p H) | (replace H := grd_k H) | (replace H := out_step H (by assumption)))); done) | rfl | ((repeat (first | exact grd_p H | replace H := grd_k H | replace H := out_step H (by assumption))); done) | ((repeat (first | exact grd_p H | (have hp := grd_p H; exact hp) | replace H := grd_k H | replace H := out_step H (by assumption) | (replace H := bind_some H; obtain ⟨_, _, H⟩ := H))); done) | (repeat (first | exact grd_p H | replace H := grd_k H | replace H := out_step H (by assumption)))))
        | ((with_reducible refine CallW.mk ?_); (repeat (first | replace H := grd_k H | replace H := out_step H (by assumption))); replace H := bind_some H; obtain ⟨y, hy, H⟩ := H; first | ((with_reducible have hz : laws_toSlot _ = some y := hy); clear hz; refine Exists.intro _ (Exists.intro _ ⟨laws_toSlot.call hy ?_, rfl, rfl, ?_⟩)))
        | ((repeat (first | replace H := grd_k H | replace H := out_step H (by assumption))); refine loop_iter (G5_ok.at tok []) (ct := []) (F := (fun s1 : Int × (List Slot) => ⟨sl [(0, (.tree ty_Slot a0)), (3, (.own 0)), (4, (.v (.int .i64 s1.1)))], [some (.arr 51 ty_Slot s1.2)]⟩)) (step := (fun s : Int × (List Slot) => laws_toSlotS_loop1 _ s.1 s.2)) _ H (by kernel_rfl) (sub_auto ?_) ?_; rotate_left; (intro s1 r v hr H); rotate_right)
        | ((repeat (first | replace H := grd_k H | replace H := out_step H (by assumption))); refine again_step H (by assumption) (sub_auto ?_))
        | ((with_reducible refine fin_mk ?_); (repeat (first | replace H := grd_k H | replace H := out_step H (by assumption))); have H := Option.some.inj H; subst H))
def G6 : Env := G5.add 27 [] laws_toSlotS.S
theorem G6_ok : EnvOk Tryd.prog G6 := G5_ok.add ent_27 fun ar h r h1 ⟨a0, y, hy, e1, e2, e3, e4⟩ => by
  subst e3 e4; exact (laws_toSlotS.spec a0 y hy).le e1 e2
attribute [local irreducible] laws_toSlotS

noncomputable def laws_toRopeway (a0 : Ropeway) : Option (Ropeway) :=
  ((laws_toSlotS a0.2.1).bind fun y1 => (some (a0.1, y1, a0.2.2.1, a0.2.2.2.1, a0.2.2.2.2.1, ())))
def laws_toRopeway.res (_ : Ropeway) (y : Ropeway) : AV := (.agg [(.v (.int .i64 y.1)), (.own 0), (.v (.int .i64 y.2.2.1)), (.v (.int .i64 y.2.2.2.1)), (.v (.int .i64 y.2.2.2.2.1))])
def laws_toRopeway.out (_ : Ropeway) (y : Ropeway) : List (Option LB) := [some (.arr 51 ty_Slot y.2.1)]
def laws_toRopeway.S (ar : List AV) (h : List (Option LB)) (r : AV) (h1 : List (Option LB)) : Prop := ∃ a0 y, laws_toRopeway a0 = some y ∧ leL ar [(.agg [(.v (.int .i64 a0.1)), (.tree ty_Slot a0.2.1), (.v (.int .i64 a0.2.2.1)), (.v (.int .i64 a0.2.2.2.1)), (.v (.int .i64 a0.2.2.2.2.1))])] ∧ leH h [] ∧ r = laws_toRopeway.res a0 y ∧ h1 = laws_toRopeway.out a0 y
theorem laws_toRopeway.call {ar : List AV} {h : List (Option LB)} {a0 : Ropeway} {y : Ropeway} (H : laws_toRopeway a0 = some y) (h0 : leLk ar [(.agg [(.v (.int .i64 a0.1)), (.tree ty_Slot a0.2.1), (.v (.int .i64 a0.2.2.1)), (.v (.int .i64 a0.2.2.2.1)), (.v (.int .i64 a0.2.2.2.2.1))])] (leHk h [])) : laws_toRopeway.S ar h (laws_toRopeway.res a0 y) (laws_toRopeway.out a0 y) := ⟨a0, y, H, (args_ok h0).1, (args_ok h0).2, rfl, rfl⟩
set_option maxHeartbeats 100000000 in
set_option maxRecDepth 100000 in
theorem laws_toRopeway.spec (a0 : Ropeway) (y : Ropeway) (H : laws_toRopeway a0 = some y) : Spec Tryd.prog 15 [(.agg [(.v (.int .i64 a0.1)), (.tree ty_Slot a0.2.1), (.v (.int .i64 a0.2.2.1)), (.v (.int .i64 a0.2.2.2.1)), (.v (.int .i64 a0.2.2.2.2.1))])] [] (laws_toRopeway.res a0 y) (laws_toRopeway.out a0 y) := by
  refine spec_intro (G6_ok.at tok []) (ct := [(6, some [1, 2, 3])]) Tryd.func15 rfl (by kernel_rfl) (by kernel_rfl) rfl ?_
  repeat' first
    | ((with_reducible refine eqg ?_); exact rfl)
    | ((with_reducible refine KOb.mk ?_); kernel_rfl)
    | ((with_reducible intro h); (repeat (first | replace H := grd_k H | replace H := out_step H (by assumption))); first | replace H := cond_t h H | replace H := cond_f h H | exact absurd h (by decide) | skip)
    | ((with_reducible refine Ob.mk ?_); first | (with_reducible rfl) | (first | ((repeat (first | (with_reducible exact grd_p H) | (replace H := grd_k H) | (replace H := out_step H (by assumption)))); done) | rfl | ((repeat (first | exact grd_p H | replace H := grd_k H | replace H := out_step H (by assumption))); done) | ((repeat (first | exact grd_p H | (have hp := grd_p H; exact hp) | replace H := grd_k H | replace H := out_step H (by assumption) | (replace H := bind_some H; obtain ⟨_, _, H⟩ := H))); done) | (repeat (first | exact grd_p H | replace H := grd_k H | replace H := out_step H (by assumption)))))
    | (with_reducible exact True.intro)
    | constructor
    | ((conv => whnf); first
        | ((with_reducible refine Ob.mk ?_); first | (with_reducible rfl) | (first | ((repeat (first | (with_reducible exact grd_p H) | (replace H := grd_k H) | (replace H := out_step H (by assumption)))); done) | rfl | ((repeat (first | exact grd_p H | replace H := grd_k H | replace H := out_step H (by assumption))); done) | ((repeat (first | exact grd_p H | (have hp := grd_p H; exact hp) | replace H := grd_k H | replace H := out_step H (by assumption) | (replace H := bind_some H; obtain ⟨_, _, H⟩ := H))); done) | (repeat (first | exact grd_p H | replace H := grd_k H | replace H := out_step H (by assumption)))))
        | ((with_reducible refine CallW.mk ?_); (repeat (first | replace H := grd_k H | replace H := out_step H (by assumption))); replace H := bind_some H; obtain ⟨y, hy, H⟩ := H; first | ((with_reducible have hz : laws_toSlotS _ = some y := hy); clear hz; refine Exists.intro _ (Exists.intro _ ⟨laws_toSlotS.call hy ?_, rfl, rfl, ?_⟩)))
        | ((with_reducible refine fin_mk ?_); (repeat (first | replace H := grd_k H | replace H := out_step H (by assumption))); have H := Option.some.inj H; subst H))
def G7 : Env := G6.add 15 [] laws_toRopeway.S
theorem G7_ok : EnvOk Tryd.prog G7 := G6_ok.add ent_15 fun ar h r h1 ⟨a0, y, hy, e1, e2, e3, e4⟩ => by
  subst e3 e4; exact (laws_toRopeway.spec a0 y hy).le e1 e2
attribute [local irreducible] laws_toRopeway

end Go.Proofs.YtdlngdmdebpadaaDoor
