/-
  Contracts, printed by a program.
-/
import Derived.Test.YtdlngdmdebpadaaDoorC387
namespace Go.Proofs.YtdlngdmdebpadaaDoor
open Go.RowKit
attribute [local irreducible] Ob loopwp Sub Spec Fin Again CallW CutC KOb iter joinx outm

attribute [local irreducible] laws_szSlotS laws_szRopeway laws_szLog laws_szConsole laws_toSlot laws_toSlotS laws_toRopeway laws_toLog laws_toConsole spec_l1In spec_l25Slot spec_l25Good spec_l1Split spec_l1Num spec_l1Num_f spec_l27Plain spec_l1Stands spec_l27Good spec_l1Sum spec_l1Seal spec_l27Line spec_l27Read spec_l27Open spec_l27Log spec_l28Good spec_IsValidConsole impl_within impl_Ropeway_isStation impl_IsRopeway_1_i1 slices_IndexFunc___impl_Slot_impl_Slot__i1 slices_ContainsFunc___impl_Slot_impl_Slot__i1 impl_IsRopeway strings_Cut strings_Contains impl_checksum strconv_Itoa impl_AppendChecksum impl_VerifyChecksum internal_stringslite_HasPrefix internal_stringslite_CutPrefix strings_CutPrefix strings_ContainsAny impl_isPlain impl_IsValidRecord impl_decodeRecord impl_readRecords impl_Log_records impl_IsValidLog impl_IsValidConsole laws_eqSlot

noncomputable def laws_eqSlotS_loop1 (a0 : (List Slot)) (a1 : (List Slot)) (v4 : Int) : Option (Lp (Int) ((Unit) ⊕ (Unit))) :=
  (cond (decide (v4 < (a0.length : Int))) (grd (0 ≤ v4 ∧ v4 < (a0.length : Int)) (grd (0 ≤ v4 ∧ v4 < (a1.length : Int)) ((laws_eqSlot ((a0.getD v4.toNat d_Slot).1, (a0.getD v4.toNat d_Slot).2.1, (a0.getD v4.toNat d_Slot).2.2.1, ()) ((a1.getD v4.toNat d_Slot).1, (a1.getD v4.toNat d_Slot).2.1, (a1.getD v4.toNat d_Slot).2.2.1, ())).bind fun y5 => (cond (!y5) ((some (.out (Sum.inl ())))) (some (.go (w64 (v4 + (1 : Int))))))))) ((some (.out (Sum.inr ())))))
noncomputable def laws_eqSlotS (a0 : (List Slot)) (a1 : (List Slot)) : Option (Bool) :=
  (cond (!decide ((a0.length : Int) = (a1.length : Int))) ((some false)) ((iter (fun s => laws_eqSlotS_loop1 a0 a1 s) (0 : Int)).bind (Sum.elim (fun _ => (some false)) (fun _ => (some true)))))
def laws_eqSlotS.res (_ : (List Slot)) (_ : (List Slot)) (y : Bool) : AV := (.bl y)
def laws_eqSlotS.out (_ : (List Slot)) (_ : (List Slot)) (_ : Bool) : List (Option LB) := []
def laws_eqSlotS.S (ar : List AV) (h : List (Option LB)) (r : AV) (h1 : List (Option LB)) : Prop := ∃ a0 a1 y, laws_eqSlotS a0 a1 = some y ∧ leL ar [(.tree ty_Slot a0), (.tree ty_Slot a1)] ∧ leH h [] ∧ r = laws_eqSlotS.res a0 a1 y ∧ h1 = laws_eqSlotS.out a0 a1 y
theorem laws_eqSlotS.call {ar : List AV} {h : List (Option LB)} {a0 : (List Slot)} {a1 : (List Slot)} {y : Bool} (H : laws_eqSlotS a0 a1 = some y) (h0 : leLk ar [(.tree ty_Slot a0), (.tree ty_Slot a1)] (leHk h [])) : laws_eqSlotS.S ar h (laws_eqSlotS.res a0 a1 y) (laws_eqSlotS.out a0 a1 y) := ⟨a0, a1, y, H, (args_ok h0).1, (args_ok h0).2, rfl, rfl⟩
set_option maxHeartbeats 100000000 in
set_option maxRecDepth 100000 in
theorem laws_eqSlotS.spec (a0 : (List Slot)) (a1 : (List Slot)) (y : Bool) (H : laws_eqSlotS a0 a1 = some y) : Spec Tryd.prog 33 [(.tree ty_Slot a0), (.tree ty_Slot a1)] [] (laws_eqSlotS.res a0 a1 y) (laws_eqSlotS.out a0 a1 y) := by
  refine spec_intro (G49_ok.at tok []) (ct := [(7, some [0, 1, 5, 26])]) Tryd.func33 rfl (by kernel_rfl) (by kernel_rfl) rfl ?_
  repeat' first
    | ((with_reducible refine eqg ?_); exact rfl)
    | ((with_reducible refine KOb.mk ?_); kernel_rfl)
    | ((with_reducible intro h); (repeat (first | replace H := grd_k H | replace H := out_step H (by assumption))); first | replace H := cond_t h H | replace H := cond_f h H | exact absurd h (by decide) | skip)
    | ((with_reducible refine Ob.mk ?_); first | (with_reducible rfl) | (first | ((repeat (first | (with_reducible exact grd_p H) | (replace H := grd_k H) | (replace H := out_step H (by assumption)))); done) | rfl | ((repeat (first | exact grd_p H | replace H := grd_k H | replace H := out_step H (by assumption))); done) | ((repeat (first | exact grd_p H | (have hp := grd_p H; exact hp) | replace H := grd_k H | replace H := out_step H (by assumption) | (replace H := bind_some H; obtain ⟨_, _, H⟩ := H))); done) | (repeat (first | exact grd_p H | replace H := grd_k H | replace H := out_step H (by assumption)))))
    | (with_reducible exact True.intro)
    | constructor
    | ((conv => whnf); first
        | ((with_reducible refine Ob.mk ?_); first | (with_reducible rfl) | (first | ((repeat (first | (with_reducible exact grd_p H) | (replace H := grd_k H) | (replace H := out_step H (by assumption)))); done) | rfl | ((repeat (first | exact grd_p H | replace H := grd_k H | replace H := out_step H (by assumption))); done) | ((repeat (first | exact grd_p H | (have hp := grd_p H; exact hp) | replace H := grd_k H | replace H := out_step H (by assumption) | (replace H := bind_some H; obtain ⟨_, _, H⟩ := H))); done) | (repeat (first | exact grd_p H | replace H := grd_k H | replace H := out_step H (by assumption)))))
        | ((with_reducible refine CallW.mk ?_); (repeat (first | replace H := grd_k H | replace H := out_step H (by assumption))); replace H := bind_some H; obtain ⟨y, hy, H⟩ := H; first | ((with_reducible have hz : laws_eqSlot _ _ = some y := hy); clear hz; refine Exists.intro _ (Exists.intro _ ⟨laws_eqSlot.call hy ?_, rfl, rfl, ?_⟩)))
        | ((repeat (first | replace H := grd_k H | replace H := out_step H (by assumption))); refine loop_iter (G49_ok.at tok []) (ct := [(7, some [0, 1, 5, 26])]) (F := (fun s1 : Int => ⟨sl [(0, (.tree ty_Slot a0)), (1, (.tree ty_Slot a1)), (5, (.v (.int .i64 s1)))], []⟩)) (step := (fun s : Int => laws_eqSlotS_loop1 _ _ s)) _ H (by kernel_rfl) (sub_auto ?_) ?_; rotate_left; (intro s1 r v hr H); rotate_right)
        | ((repeat (first | replace H := grd_k H | replace H := out_step H (by assumption))); refine again_step H (by assumption) (sub_auto ?_))
        | ((with_reducible refine fin_mk ?_); (repeat (first | replace H := grd_k H | replace H := out_step H (by assumption))); have H := Option.some.inj H; subst H))
def G50 : Env := G49.add 33 [] laws_eqSlotS.S
theorem G50_ok : EnvOk Tryd.prog G50 := G49_ok.add ent_33 fun ar h r h1 ⟨a0, a1, y, hy, e1, e2, e3, e4⟩ => by
  subst e3 e4; exact (laws_eqSlotS.spec a0 a1 y hy).le e1 e2
attribute [local irreducible] laws_eqSlotS

noncomputable def laws_eqRopeway (a0 : Ropeway) (a1 : Ropeway) : Option (Bool) :=
  (cond (!decide (a0.1 = a1.1)) ((some false)) ((laws_eqSlotS a0.2.1 a1.2.1).bind fun y1 => (cond (!y1) ((some false)) (cond (!decide (a0.2.2.1 = a1.2.2.1)) ((some false)) (cond (!decide (a0.2.2.2.1 = a1.2.2.2.1)) ((some false)) (cond (!decide (a0.2.2.2.2.1 = a1.2.2.2.2.1)) ((some false)) ((some true))))))))
def laws_eqRopeway.res (_ : Ropeway) (_ : Ropeway) (y : Bool) : AV := (.bl y)
def laws_eqRopeway.out (_ : Ropeway) (_ : Ropeway) (_ : Bool) : List (Option LB) := []
def laws_eqRopeway.S (ar : List AV) (h : List (Option LB)) (r : AV) (h1 : List (Option LB)) : Prop := ∃ a0 a1 y, laws_eqRopeway a0 a1 = some y ∧ leL ar [(.agg [(.v (.int .i64 a0.1)), (.tree ty_Slot a0.2.1), (.v (.int .i64 a0.2.2.1)), (.v (.int .i64 a0.2.2.2.1)), (.v (.int .i64 a0.2.2.2.2.1))]), (.agg [(.v (.int .i64 a1.1)), (.tree ty_Slot a1.2.1), (.v (.int .i64 a1.2.2.1)), (.v (.int .i64 a1.2.2.2.1)), (.v (.int .i64 a1.2.2.2.2.1))])] ∧ leH h [] ∧ r = laws_eqRopeway.res a0 a1 y ∧ h1 = laws_eqRopeway.out a0 a1 y
theorem laws_eqRopeway.call {ar : List AV} {h : List (Option LB)} {a0 : Ropeway} {a1 : Ropeway} {y : Bool} (H : laws_eqRopeway a0 a1 = some y) (h0 : leLk ar [(.agg [(.v (.int .i64 a0.1)), (.tree ty_Slot a0.2.1), (.v (.int .i64 a0.2.2.1)), (.v (.int .i64 a0.2.2.2.1)), (.v (.int .i64 a0.2.2.2.2.1))]), (.agg [(.v (.int .i64 a1.1)), (.tree ty_Slot a1.2.1), (.v (.int .i64 a1.2.2.1)), (.v (.int .i64 a1.2.2.2.1)), (.v (.int .i64 a1.2.2.2.2.1))])] (leHk h [])) : laws_eqRopeway.S ar h (laws_eqRopeway.res a0 a1 y) (laws_eqRopeway.out a0 a1 y) := ⟨a0, a1, y, H, (args_ok h0).1, (args_ok h0).2, rfl, rfl⟩
set_option maxHeartbeats 100000000 in
set_option maxRecDepth 100000 in
theorem laws_eqRopeway.spec (a0 : Ropeway) (a1 : Ropeway) (y : Bool) (H : laws_eqRopeway a0 a1 = some y) : Spec Tryd.prog 19 [(.agg [(.v (.int .i64 a0.1)), (.tree ty_Slot a0.2.1), (.v (.int .i64 a0.2.2.1)), (.v (.int .i64 a0.2.2.2.1)), (.v (.int .i64 a0.2.2.2.2.1))]), (.agg [(.v (.int .i64 a1.1)), (.tree ty_Slot a1.2.1), (.v (.int .i64 a1.2.2.1)), (.v (.int .i64 a1.2.2.2.1)), (.v (.int .i64 a1.2.2.2.2.1))])] [] (laws_eqRopeway.res a0 a1 y) (laws_eqRopeway.out a0 a1 y) := by
  refine spec_intro (G50_ok.at tok []) (ct := [(4, some [2, 3, 15]), (10, some [30])]) Tryd.func19 rfl (by kernel_rfl) (by kernel_rfl) rfl ?_
  repeat' first
    | ((with_reducible refine eqg ?_); exact rfl)
    | ((with_reducible refine KOb.mk ?_); kernel_rfl)
    | ((with_reducible intro h); (repeat (first | replace H := grd_k H | replace H := out_step H (by assumption))); first | replace H := cond_t h H | replace H := cond_f h H | exact absurd h (by decide) | skip)
    | ((with_reducible refine Ob.mk ?_); first | (with_reducible rfl) | (first | ((repeat (first | (with_reducible exact grd_p H) | (replace H := grd_k H) | (replace H := out_step H (by assumption)))); done) | rfl | ((repeat (first | exact grd_p H | replace H := grd_k H | replace H := out_step H (by assumption))); done) | ((repeat (first | exact grd_p H | (have hp := grd_p H; exact hp) | replace H := grd_k H | replace H := out_step H (by assumption) | (replace H := bind_some H; obtain ⟨_, _, H⟩ := H))); done) | (repeat (first | exact grd_p H | replace H := grd_k H | replace H := out_step H (by assumption)))))
    | (with_reducible exact True.intro)
    | constructor
    | ((conv => whnf); first
        | ((with_reducible refine Ob.mk ?_); first | (with_reducible rfl) | (first | ((repeat (first | (with_reducible exact grd_p H) | (replace H := grd_k H) | (replace H := out_step H (by assumption)))); done) | rfl | ((repeat (first | exact grd_p H | replace H := grd_k H | replace H := out_step H (by assumption))); done) | ((repeat (first | exact grd_p H | (have hp := grd_p H; exact hp) | replace H := grd_k H | replace H := out_step H (by assumption) | (replace H := bind_some H; obtain ⟨_, _, H⟩ := H))); done) | (repeat (first | exact grd_p H | replace H := grd_k H | replace H := out_step H (by assumption)))))
        | ((with_reducible refine CallW.mk ?_); (repeat (first | replace H := grd_k H | replace H := out_step H (by assumption))); replace H := bind_some H; obtain ⟨y, hy, H⟩ := H; first | ((with_reducible have hz : laws_eqSlotS _ _ = some y := hy); clear hz; refine Exists.intro _ (Exists.intro _ ⟨laws_eqSlotS.call hy ?_, rfl, rfl, ?_⟩)))
        | ((with_reducible refine fin_mk ?_); (repeat (first | replace H := grd_k H | replace H := out_step H (by assumption))); have H := Option.some.inj H; subst H))
def G51 : Env := G50.add 19 [] laws_eqRopeway.S
theorem G51_ok : EnvOk Tryd.prog G51 := G50_ok.add ent_19 fun ar h r h1 ⟨a0, a1, y, hy, e1, e2, e3, e4⟩ => by
  subst e3 e4; exact (laws_eqRopeway.spec a0 a1 y hy).le e1 e2
attribute [local irreducible] laws_eqRopeway

noncomputable def laws_eqLog (a0 : Log) (a1 : Log) : Option (Bool) :=
  (cond (!decide (a0.1 = a1.1)) ((some false)) (cond (!decide (a0.2.1 = a1.2.1)) ((some false)) (cond (!decide (a0.2.2.1 = a1.2.2.1)) ((some false)) ((some true)))))
def laws_eqLog.res (_ : Log) (_ : Log) (y : Bool) : AV := (.bl y)
def laws_eqLog.out (_ : Log) (_ : Log) (_ : Bool) : List (Option LB) := []
def laws_eqLog.S (ar : List AV) (h : List (Option LB)) (r : AV) (h1 : List (Option LB)) : Prop := ∃ a0 a1 y, laws_eqLog a0 a1 = some y ∧ leL ar [(.agg [(.v (.string a0.1)), (.v (.string a0.2.1)), (.v (.int .i64 a0.2.2.1))]), (.agg [(.v (.string a1.1)), (.v (.string a1.2.1)), (.v (.int .i64 a1.2.2.1))])] ∧ leH h [] ∧ r = laws_eqLog.res a0 a1 y ∧ h1 = laws_eqLog.out a0 a1 y
theorem laws_eqLog.call {ar : List AV} {h : List (Option LB)} {a0 : Log} {a1 : Log} {y : Bool} (H : laws_eqLog a0 a1 = some y) (h0 : leLk ar [(.agg [(.v (.string a0.1)), (.v (.string a0.2.1)), (.v (.int .i64 a0.2.2.1))]), (.agg [(.v (.string a1.1)), (.v (.string a1.2.1)), (.v (.int .i64 a1.2.2.1))])] (leHk h [])) : laws_eqLog.S ar h (laws_eqLog.res a0 a1 y) (laws_eqLog.out a0 a1 y) := ⟨a0, a1, y, H, (args_ok h0).1, (args_ok h0).2, rfl, rfl⟩
set_option maxHeartbeats 100000000 in
set_option maxRecDepth 100000 in
theorem laws_eqLog.spec (a0 : Log) (a1 : Log) (y : Bool) (H : laws_eqLog a0 a1 = some y) : Spec Tryd.prog 20 [(.agg [(.v (.string a0.1)), (.v (.string a0.2.1)), (.v (.int .i64 a0.2.2.1))]), (.agg [(.v (.string a1.1)), (.v (.string a1.2.1)), (.v (.int .i64 a1.2.2.1))])] [] (laws_eqLog.res a0 a1 y) (laws_eqLog.out a0 a1 y) := by
  refine spec_intro (G51_ok.at tok []) (ct := [(4, some [2, 3, 14])]) Tryd.func20 rfl (by kernel_rfl) (by kernel_rfl) rfl ?_
  repeat' first
    | ((with_reducible refine eqg ?_); exact rfl)
    | ((with_reducible refine KOb.mk ?_); kernel_rfl)
    | ((with_reducible intro h); (repeat (first | replace H := grd_k H | replace H := out_step H (by assumption))); first | replace H := cond_t h H | replace H := cond_f h H | exact absurd h (by decide) | skip)
    | ((with_reducible refine Ob.mk ?_); first | (with_reducible rfl) | (first | ((repeat (first | (with_reducible exact grd_p H) | (replace H := grd_k H) | (replace H := out_step H (by assumption)))); done) | rfl | ((repeat (first | exact grd_p H | replace H := grd_k H | replace H := out_step H (by assumption))); done) | ((repeat (first | exact grd_p H | (have hp := grd_p H; exact hp) | replace H := grd_k H | replace H := out_step H (by assumption) | (replace H := bind_some H; obtain ⟨_, _, H⟩ := H))); done) | (repeat (first | exact grd_p H | replace H := grd_k H | replace H := out_step H (by assumption)))))
    | (with_reducible exact True.intro)
    | constructor
    | ((conv => whnf); first
        | ((with_reducible refine Ob.mk ?_); first | (with_reducible rfl) | (first | ((repeat (first | (with_reducible exact grd_p H) | (replace H := grd_k H) | (replace H := out_step H (by assumption)))); done) | rfl | ((repeat (first | exact grd_p H | replace H := grd_k H | replace H := out_step H (by assumption))); done) | ((repeat (first | exact grd_p H | (have hp := grd_p H; exact hp) | replace H := grd_k H | replace H := out_step H (by assumption) | (replace H := bind_some H; obtain ⟨_, _, H⟩ := H))); done) | (repeat (first | exact grd_p H | replace H := grd_k H | replace H := out_step H (by assumption)))))
        | ((with_reducible refine fin_mk ?_); (repeat (first | replace H := grd_k H | replace H := out_step H (by assumption))); have H := Option.some.inj H; subst H))
def G52 : Env := G51.add 20 [] laws_eqLog.S
theorem G52_ok : EnvOk Tryd.prog G52 := G51_ok.add ent_20 fun ar h r h1 ⟨a0, a1, y, hy, e1, e2, e3, e4⟩ => by
  subst e3 e4; exact (laws_eqLog.spec a0 a1 y hy).le e1 e2
attribute [local irreducible] laws_eqLog

noncomputable def laws_eqConsole (a0 : Console) (a1 : Console) : Option (Bool) :=
  ((laws_eqRopeway (a0.1.1, a0.1.2.1, a0.1.2.2.1, a0.1.2.2.2.1, a0.1.2.2.2.2.1, ()) (a1.1.1, a1.1.2.1, a1.1.2.2.1, a1.1.2.2.2.1, a1.1.2.2.2.2.1, ())).bind fun y1 => (cond (!y1) ((some false)) ((laws_eqLog (a0.2.1.1, a0.2.1.2.1, a0.2.1.2.2.1, ()) (a1.2.1.1, a1.2.1.2.1, a1.2.1.2.2.1, ())).bind fun y2 => (cond (!y2) ((some false)) ((some true))))))
def laws_eqConsole.res (_ : Console) (_ : Console) (y : Bool) : AV := (.bl y)
def laws_eqConsole.out (_ : Console) (_ : Console) (_ : Bool) : List (Option LB) := []
def laws_eqConsole.S (ar : List AV) (h : List (Option LB)) (r : AV) (h1 : List (Option LB)) : Prop := ∃ a0 a1 y, laws_eqConsole a0 a1 = some y ∧ leL ar [(.agg [(.v (.int .i64 a0.1.1)), (.tree ty_Slot a0.1.2.1), (.v (.int .i64 a0.1.2.2.1)), (.v (.int .i64 a0.1.2.2.2.1)), (.v (.int .i64 a0.1.2.2.2.2.1)), (.v (.string a0.2.1.1)), (.v (.string a0.2.1.2.1)), (.v (.int .i64 a0.2.1.2.2.1))]), (.agg [(.v (.int .i64 a1.1.1)), (.tree ty_Slot a1.1.2.1), (.v (.int .i64 a1.1.2.2.1)), (.v (.int .i64 a1.1.2.2.2.1)), (.v (.int .i64 a1.1.2.2.2.2.1)), (.v (.string a1.2.1.1)), (.v (.string a1.2.1.2.1)), (.v (.int .i64 a1.2.1.2.2.1))])] ∧ leH h [] ∧ r = laws_eqConsole.res a0 a1 y ∧ h1 = laws_eqConsole.out a0 a1 y
theorem laws_eqConsole.call {ar : List AV} {h : List (Option LB)} {a0 : Console} {a1 : Console} {y : Bool} (H : laws_eqConsole a0 a1 = some y) (h0 : leLk ar [(.agg [(.v (.int .i64 a0.1.1)), (.tree ty_Slot a0.1.2.1), (.v (.int .i64 a0.1.2.2.1)), (.v (.int .i64 a0.1.2.2.2.1)), (.v (.int .i64 a0.1.2.2.2.2.1)), (.v (.string a0.2.1.1)), (.v (.string a0.2.1.2.1)), (.v (.int .i64 a0.2.1.2.2.1))]), (.agg [(.v (.int .i64 a1.1.1)), (.tree ty_Slot a1.1.2.1), (.v (.int .i64 a1.1.2.2.1)), (.v (.int .i64 a1.1.2.2.2.1)), (.v (.int .i64 a1.1.2.2.2.2.1)), (.v (.string a1.2.1.1)), (.v (.string a1.2.1.2.1)), (.v (.int .i64 a1.2.1.2.2.1))])] (leHk h [])) : laws_eqConsole.S ar h (laws_eqConsole.res a0 a1 y) (laws_eqConsole.out a0 a1 y) := ⟨a0, a1, y, H, (args_ok h0).1, (args_ok h0).2, rfl, rfl⟩
set_option maxHeartbeats 100000000 in
set_option maxRecDepth 100000 in
theorem laws_eqConsole.spec (a0 : Console) (a1 : Console) (y : Bool) (H : laws_eqConsole a0 a1 = some y) : Spec Tryd.prog 9 [(.agg [(.v (.int .i64 a0.1.1)), (.tree ty_Slot a0.1.2.1), (.v (.int .i64 a0.1.2.2.1)), (.v (.int .i64 a0.1.2.2.2.1)), (.v (.int .i64 a0.1.2.2.2.2.1)), (.v (.string a0.2.1.1)), (.v (.string a0.2.1.2.1)), (.v (.int .i64 a0.2.1.2.2.1))]), (.agg [(.v (.int .i64 a1.1.1)), (.tree ty_Slot a1.1.2.1), (.v (.int .i64 a1.1.2.2.1)), (.v (.int .i64 a1.1.2.2.2.1)), (.v (.int .i64 a1.1.2.2.2.2.1)), (.v (.string a1.2.1.1)), (.v (.string a1.2.1.2.1)), (.v (.int .i64 a1.2.1.2.2.1))])] [] (laws_eqConsole.res a0 a1 y) (laws_eqConsole.out a0 a1 y) := by
  refine spec_intro (G52_ok.at tok []) (ct := [(4, some [16])]) Tryd.func9 rfl (by kernel_rfl) (by kernel_rfl) rfl ?_
  repeat' first
    | ((with_reducible refine eqg ?_); exact rfl)
    | ((with_reducible refine KOb.mk ?_); kernel_rfl)
    | ((with_reducible intro h); (repeat (first | replace H := grd_k H | replace H := out_step H (by assumption))); first | replace H := cond_t h H | replace H := cond_f h H | exact absurd h (by decide) | skip)
    | ((with_reducible refine Ob.mk ?_); first | (with_reducible rfl) | (first | ((repeat (first | (with_reducible exact grd_p H) | (replace H := grd_k H) | (replace H := out_step H (by assumption)))); done) | rfl | ((repeat (first | exact grd_p H | replace H := grd_k H | replace H := out_step H (by assumption))); done) | ((repeat (first | exact grd_p H | (have hp := grd_p H; exact hp) | replace H := grd_k H | replace H := out_step H (by assumption) | (replace H := bind_some H; obtain ⟨_, _, H⟩ := H))); done) | (repeat (first | exact grd_p H | replace H := grd_k H | replace H := out_step H (by assumption)))))
    | (with_reducible exact True.intro)
    | constructor
    | ((conv => whnf); first
        | ((with_reducible refine Ob.mk ?_); first | (with_reducible rfl) | (first | ((repeat (first | (with_reducible exact grd_p H) | (replace H := grd_k H) | (replace H := out_step H (by assumption)))); done) | rfl | ((repeat (first | exact grd_p H | replace H := grd_k H | replace H := out_step H (by assumption))); done) | ((repeat (first | exact grd_p H | (have hp := grd_p H; exact hp) | replace H := grd_k H | replace H := out_step H (by assumption) | (replace H := bind_some H; obtain ⟨_, _, H⟩ := H))); done) | (repeat (first | exact grd_p H | replace H := grd_k H | replace H := out_step H (by assumption)))))
        | ((with_reducible refine CallW.mk ?_); (repeat (first | replace H := grd_k H | replace H := out_step H (by assumption))); replace H := bind_some H; obtain ⟨y, hy, H⟩ := H; first | ((with_reducible have hz : laws_eqRopeway _ _ = some y := hy); clear hz; refine Exists.intro _ (Exists.intro _ ⟨laws_eqRopeway.call hy ?_, rfl, rfl, ?_⟩)) | ((with_reducible have hz : laws_eqLog _ _ = some y := hy); clear hz; refine Exists.intro _ (Exists.intro _ ⟨laws_eqLog.call hy ?_, rfl, rfl, ?_⟩)))
        | ((with_reducible refine fin_mk ?_); (repeat (first | replace H := grd_k H | replace H := out_step H (by assumption))); have H := Option.some.inj H; subst H))
def G53 : Env := G52.add 9 [] laws_eqConsole.S
theorem G53_ok : EnvOk Tryd.prog G53 := G52_ok.add ent_9 fun ar h r h1 ⟨a0, a1, y, hy, e1, e2, e3, e4⟩ => by
  subst e3 e4; exact (laws_eqConsole.spec a0 a1 y hy).le e1 e2
attribute [local irreducible] laws_eqConsole

noncomputable def laws_FnExactIsValidConsole (a0 : Console) : Option (Bool) :=
  ((laws_szConsole ((a0.1.1, a0.1.2.1, a0.1.2.2.1, a0.1.2.2.2.1, a0.1.2.2.2.2.1, ()), (a0.2.1.1, a0.2.1.2.1, a0.2.1.2.2.1, ()), ()) (1048576 : Int)).bind fun y1 => (cond (decide (y1 < (0 : Int))) ((some true)) ((laws_toConsole ((a0.1.1, a0.1.2.1, a0.1.2.2.1, a0.1.2.2.2.1, a0.1.2.2.2.2.1, ()), (a0.2.1.1, a0.2.1.2.1, a0.2.1.2.2.1, ()), ())).bind fun y2 => ((spec_IsValidConsole ((y2.1.1, y2.1.2.1, y2.1.2.2.1, y2.1.2.2.2.1, y2.1.2.2.2.2.1, ()), (y2.2.1.1, y2.2.1.2.1, y2.2.1.2.2.1, ()), ())).bind fun y3 => ((laws_toConsole ((a0.1.1, a0.1.2.1, a0.1.2.2.1, a0.1.2.2.2.1, a0.1.2.2.2.2.1, ()), (a0.2.1.1, a0.2.1.2.1, a0.2.1.2.2.1, ()), ())).bind fun y4 => ((impl_IsValidConsole ((y4.1.1, y4.1.2.1, y4.1.2.2.1, y4.1.2.2.2.1, y4.1.2.2.2.2.1, ()), (y4.2.1.1, y4.2.1.2.1, y4.2.1.2.2.1, ()), ())).bind fun y5 => (cond (!(y5 == y3)) ((some false)) ((laws_toConsole ((a0.1.1, a0.1.2.1, a0.1.2.2.1, a0.1.2.2.2.1, a0.1.2.2.2.2.1, ()), (a0.2.1.1, a0.2.1.2.1, a0.2.1.2.2.1, ()), ())).bind fun y6 => ((laws_eqConsole ((y4.1.1, y4.1.2.1, y4.1.2.2.1, y4.1.2.2.2.1, y4.1.2.2.2.2.1, ()), (y4.2.1.1, y4.2.1.2.1, y4.2.1.2.2.1, ()), ()) ((y6.1.1, y6.1.2.1, y6.1.2.2.1, y6.1.2.2.2.1, y6.1.2.2.2.2.1, ()), (y6.2.1.1, y6.2.1.2.1, y6.2.1.2.2.1, ()), ())).bind fun y7 => (cond (!y7) ((some false)) ((some true))))))))))))
def laws_FnExactIsValidConsole.res (_ : Console) (y : Bool) : AV := (.bl y)
def laws_FnExactIsValidConsole.out (_ : Console) (_ : Bool) : List (Option LB) := []
def laws_FnExactIsValidConsole.S (ar : List AV) (h : List (Option LB)) (r : AV) (h1 : List (Option LB)) : Prop := ∃ a0 y, laws_FnExactIsValidConsole a0 = some y ∧ leL ar [(.agg [(.v (.int .i64 a0.1.1)), (.tree ty_Slot a0.1.2.1), (.v (.int .i64 a0.1.2.2.1)), (.v (.int .i64 a0.1.2.2.2.1)), (.v (.int .i64 a0.1.2.2.2.2.1)), (.v (.string a0.2.1.1)), (.v (.string a0.2.1.2.1)), (.v (.int .i64 a0.2.1.2.2.1))])] ∧ leH h [] ∧ r = laws_FnExactIsValidConsole.res a0 y ∧ h1 = laws_FnExactIsValidConsole.out a0 y
theorem laws_FnExactIsValidConsole.call {ar : List AV} {h : List (Option LB)} {a0 : Console} {y : Bool} (H : laws_FnExactIsValidConsole a0 = some y) (h0 : leLk ar [(.agg [(.v (.int .i64 a0.1.1)), (.tree ty_Slot a0.1.2.1), (.v (.int .i64 a0.1.2.2.1)), (.v (.int .i64 a0.1.2.2.2.1)), (.v (.int .i64 a0.1.2.2.2.2.1)), (.v (.string a0.2.1.1)), (.v (.string a0.2.1.2.1)), (.v (.int .i64 a0.2.1.2.2.1))])] (leHk h [])) : laws_FnExactIsValidConsole.S ar h (laws_FnExactIsValidConsole.res a0 y) (laws_FnExactIsValidConsole.out a0 y) := ⟨a0, y, H, (args_ok h0).1, (args_ok h0).2, rfl, rfl⟩
set_option maxHeartbeats 100000000 in
set_option maxRecDepth 100000 in
theorem laws_FnExactIsValidConsole.spec (a0 : Console) (y : Bool) (H : laws_FnExactIsValidConsole a0 = some y) : Spec Tryd.prog 3 [(.agg [(.v (.int .i64 a0.1.1)), (.tree ty_Slot a0.1.2.1), (.v (.int .i64 a0.1.2.2.1)), (.v (.int .i64 a0.1.2.2.2.1)), (.v (.int .i64 a0.1.2.2.2.2.1)), (.v (.string a0.2.1.1)), (.v (.string a0.2.1.2.1)), (.v (.int .i64 a0.2.1.2.2.1))])] [] (laws_FnExactIsValidConsole.res a0 y) (laws_FnExactIsValidConsole.out a0 y) := by
  refine spec_intro (G53_ok.at tok []) (ct := [(6, some [1, 4]), (11, some [26])]) Tryd.func3 rfl (by kernel_rfl) (by kernel_rfl) rfl ?_
  repeat' first
    | ((with_reducible refine eqg ?_); exact rfl)
    | ((with_reducible refine KOb.mk ?_); kernel_rfl)
    | ((with_reducible intro h); (repeat (first | replace H := grd_k H | replace H := out_step H (by assumption))); first | replace H := cond_t h H | replace H := cond_f h H | exact absurd h (by decide) | skip)
    | ((with_reducible refine Ob.mk ?_); first | (with_reducible rfl) | (first | ((repeat (first | (with_reducible exact grd_p H) | (replace H := grd_k H) | (replace H := out_step H (by assumption)))); done) | rfl | ((repeat (first | exact grd_p H | replace H := grd_k H | replace H := out_step H (by assumption))); done) | ((repeat (first | exact grd_p H | (have hp := grd_p H; exact hp) | replace H := grd_k H | replace H := out_step H (by assumption) | (replace H := bind_some H; obtain ⟨_, _, H⟩ := H))); done) | (repeat (first | exact grd_p H | replace H := grd_k H | replace H := out_step H (by assumption)))))
    | (with_reducible exact True.intro)
    | constructor
    | ((conv => whnf); first
        | ((with_reducible refine Ob.mk ?_); first | (with_reducible rfl) | (first | ((repeat (first | (with_reducible exact grd_p H) | (replace H := grd_k H) | (replace H := out_step H (by assumption)))); done) | rfl | ((repeat (first | exact grd_p H | replace H := grd_k H | replace H := out_step H (by assumption))); done) | ((repeat (first | exact grd_p H | (have hp := grd_p H; exact hp) | replace H := grd_k H | replace H := out_step H (by assumption) | (replace H := bind_some H; obtain ⟨_, _, H⟩ := H))); done) | (repeat (first | exact grd_p H | replace H := grd_k H | replace H := out_step H (by assumption)))))
        | ((with_reducible refine CallW.mk ?_); (repeat (first | replace H := grd_k H | replace H := out_step H (by assumption))); replace H := bind_some H; obtain ⟨y, hy, H⟩ := H; first | ((with_reducible have hz : laws_szConsole _ _ = some y := hy); clear hz; refine Exists.intro _ (Exists.intro _ ⟨laws_szConsole.call hy ?_, rfl, rfl, ?_⟩)) | ((with_reducible have hz : laws_toConsole _ = some y := hy); clear hz; refine Exists.intro _ (Exists.intro _ ⟨laws_toConsole.call hy ?_, rfl, rfl, ?_⟩)) | ((with_reducible have hz : spec_IsValidConsole _ = some y := hy); clear hz; refine Exists.intro _ (Exists.intro _ ⟨spec_IsValidConsole.call hy ?_, rfl, rfl, ?_⟩)) | ((with_reducible have hz : impl_IsValidConsole _ = some y := hy); clear hz; refine Exists.intro _ (Exists.intro _ ⟨impl_IsValidConsole.call hy ?_, rfl, rfl, ?_⟩)) | ((with_reducible have hz : laws_eqConsole _ _ = some y := hy); clear hz; refine Exists.intro _ (Exists.intro _ ⟨laws_eqConsole.call hy ?_, rfl, rfl, ?_⟩)))
        | ((with_reducible refine fin_mk ?_); (repeat (first | replace H := grd_k H | replace H := out_step H (by assumption))); have H := Option.some.inj H; subst H))
def G54 : Env := G53.add 3 [] laws_FnExactIsValidConsole.S
theorem G54_ok : EnvOk Tryd.prog G54 := G53_ok.add ent_3 fun ar h r h1 ⟨a0, y, hy, e1, e2, e3, e4⟩ => by
  subst e3 e4; exact (laws_FnExactIsValidConsole.spec a0 y hy).le e1 e2
attribute [local irreducible] laws_FnExactIsValidConsole

end Go.Proofs.YtdlngdmdebpadaaDoor
