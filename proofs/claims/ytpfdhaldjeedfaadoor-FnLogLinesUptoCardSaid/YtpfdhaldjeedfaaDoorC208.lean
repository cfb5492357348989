/-
  Contracts, printed by a program.
-/
import Derived.Test.YtpfdhaldjeedfaaDoorC207
namespace Go.Proofs.YtpfdhaldjeedfaaDoor
open Go.RowKit
attribute [local irreducible] Ob loopwp Sub Spec Fin Again CallW CutC KOb iter joinx outm

attribute [local irreducible] laws_szLogRecord laws_toLogRecord spec_l1In spec_l27Plain spec_l1Stands spec_l27Good spec_l1Num spec_l1Num_f spec_l1Sum spec_l1Seal spec_l27Line spec_EncodeRecord impl_within strings_ContainsAny impl_isPlain impl_IsValidRecord strconv_Itoa strings_Contains impl_checksum impl_AppendChecksum impl_encodeRecord impl_EncodeRecord laws_FnExactEncodeRecord spec_l1Split spec_l27Read spec_l27Open spec_RecoverLog strings_Cut impl_VerifyChecksum internal_stringslite_HasPrefix internal_stringslite_CutPrefix strings_CutPrefix impl_decodeRecord impl_readRecords impl_RecoverLog laws_eqLog laws_FnExactRecoverLog laws_szLog laws_toLog spec_l27Log spec_IsValidLog impl_Log_records impl_IsValidLog

noncomputable def laws_FnExactIsValidLog (a0 : Log) : Option (Bool) :=
  ((laws_szLog (a0.1, a0.2.1, a0.2.2.1, ()) (1048576 : Int)).bind fun y1 => (cond (decide (y1 < (0 : Int))) ((some true)) ((laws_toLog (a0.1, a0.2.1, a0.2.2.1, ())).bind fun y2 => ((spec_IsValidLog (y2.1, y2.2.1, y2.2.2.1, ())).bind fun y3 => ((laws_toLog (a0.1, a0.2.1, a0.2.2.1, ())).bind fun y4 => ((impl_IsValidLog (y4.1, y4.2.1, y4.2.2.1, ())).bind fun y5 => (cond (!(y5 == y3)) ((some false)) ((some true)))))))))
def laws_FnExactIsValidLog.res (_ : Log) (y : Bool) : AV := (.bl y)
def laws_FnExactIsValidLog.out (_ : Log) (_ : Bool) : List (Option LB) := []
def laws_FnExactIsValidLog.S (ar : List AV) (h : List (Option LB)) (r : AV) (h1 : List (Option LB)) : Prop := ∃ a0 y, laws_FnExactIsValidLog a0 = some y ∧ leL ar [(.agg [(.v (.string a0.1)), (.v (.string a0.2.1)), (.v (.int .i64 a0.2.2.1))])] ∧ leH h [] ∧ r = laws_FnExactIsValidLog.res a0 y ∧ h1 = laws_FnExactIsValidLog.out a0 y
theorem laws_FnExactIsValidLog.call {ar : List AV} {h : List (Option LB)} {a0 : Log} {y : Bool} (H : laws_FnExactIsValidLog a0 = some y) (h0 : leLk ar [(.agg [(.v (.string a0.1)), (.v (.string a0.2.1)), (.v (.int .i64 a0.2.2.1))])] (leHk h [])) : laws_FnExactIsValidLog.S ar h (laws_FnExactIsValidLog.res a0 y) (laws_FnExactIsValidLog.out a0 y) := ⟨a0, y, H, (args_ok h0).1, (args_ok h0).2, rfl, rfl⟩
set_option maxHeartbeats 100000000 in
set_option maxRecDepth 100000 in
theorem laws_FnExactIsValidLog.spec (a0 : Log) (y : Bool) (H : laws_FnExactIsValidLog a0 = some y) : Spec Tryd.prog 5 [(.agg [(.v (.string a0.1)), (.v (.string a0.2.1)), (.v (.int .i64 a0.2.2.1))])] [] (laws_FnExactIsValidLog.res a0 y) (laws_FnExactIsValidLog.out a0 y) := by
  refine spec_intro (G42_ok.at tok []) (ct := [(6, some [1, 4])]) Tryd.func5 rfl (by kernel_rfl) (by kernel_rfl) rfl ?_
  repeat' first
    | ((with_reducible refine eqg ?_); exact rfl)
    | ((with_reducible refine KOb.mk ?_); kernel_rfl)
    | ((with_reducible intro h); (repeat (first | replace H := grd_k H | replace H := out_step H (by assumption))); first | replace H := cond_t h H | replace H := cond_f h H | exact absurd h (by decide) | skip)
    | ((with_reducible refine Ob.mk ?_); first | rfl | (repeat (first | exact grd_p H | (have hp := grd_p H; exact hp) | replace H := grd_k H | replace H := out_step H (by assumption) | (replace H := bind_some H; obtain ⟨_, _, H⟩ := H))))
    | (with_reducible exact True.intro)
    | constructor
    | ((conv => whnf); first
        | ((with_reducible refine Ob.mk ?_); first | rfl | (repeat (first | exact grd_p H | (have hp := grd_p H; exact hp) | replace H := grd_k H | replace H := out_step H (by assumption) | (replace H := bind_some H; obtain ⟨_, _, H⟩ := H))))
        | ((with_reducible refine CallW.mk ?_); (repeat (first | replace H := grd_k H | replace H := out_step H (by assumption))); replace H := bind_some H; obtain ⟨y, hy, H⟩ := H; first | ((with_reducible have hz : laws_szLog _ _ = some y := hy); clear hz; refine Exists.intro _ (Exists.intro _ ⟨laws_szLog.call hy ?_, rfl, rfl, ?_⟩)) | ((with_reducible have hz : laws_toLog _ = some y := hy); clear hz; refine Exists.intro _ (Exists.intro _ ⟨laws_toLog.call hy ?_, rfl, rfl, ?_⟩)) | ((with_reducible have hz : spec_IsValidLog _ = some y := hy); clear hz; refine Exists.intro _ (Exists.intro _ ⟨spec_IsValidLog.call hy ?_, rfl, rfl, ?_⟩)) | ((with_reducible have hz : impl_IsValidLog _ = some y := hy); clear hz; refine Exists.intro _ (Exists.intro _ ⟨impl_IsValidLog.call hy ?_, rfl, rfl, ?_⟩)))
        | ((with_reducible refine fin_mk ?_); (repeat (first | replace H := grd_k H | replace H := out_step H (by assumption))); have H := Option.some.inj H; subst H))
def G43 : Env := G42.add 5 [] laws_FnExactIsValidLog.S
theorem G43_ok : EnvOk Tryd.prog G43 := G42_ok.add ent_5 fun ar h r h1 ⟨a0, y, hy, e1, e2, e3, e4⟩ => by
  subst e3 e4; exact (laws_FnExactIsValidLog.spec a0 y hy).le e1 e2
attribute [local irreducible] laws_FnExactIsValidLog

noncomputable def spec_SyncLog (a0 : Log) : Option (Log × Bool) :=
  ((spec_l27Log (a0.1, a0.2.1, a0.2.2.1, ())).bind fun y1 => (cond (!y1) ((some (((ByteArray.mk #[]), (ByteArray.mk #[]), (0 : Int), ()), false))) (grd (a0.1.size + a0.2.1.size ≤ 9223372036854775807) ((some (((a0.1 ++ a0.2.1), (ByteArray.mk #[]), a0.2.2.1, ()), true))))))
def spec_SyncLog.res (_ : Log) (y : Log × Bool) : AV := (.tup [(.agg [(.v (.string y.1.1)), (.v (.string y.1.2.1)), (.v (.int .i64 y.1.2.2.1))]), (.bl y.2)])
def spec_SyncLog.out (_ : Log) (_ : Log × Bool) : List (Option LB) := []
def spec_SyncLog.S (ar : List AV) (h : List (Option LB)) (r : AV) (h1 : List (Option LB)) : Prop := ∃ a0 y, spec_SyncLog a0 = some y ∧ leL ar [(.agg [(.v (.string a0.1)), (.v (.string a0.2.1)), (.v (.int .i64 a0.2.2.1))])] ∧ leH h [] ∧ r = spec_SyncLog.res a0 y ∧ h1 = spec_SyncLog.out a0 y
theorem spec_SyncLog.call {ar : List AV} {h : List (Option LB)} {a0 : Log} {y : Log × Bool} (H : spec_SyncLog a0 = some y) (h0 : leLk ar [(.agg [(.v (.string a0.1)), (.v (.string a0.2.1)), (.v (.int .i64 a0.2.2.1))])] (leHk h [])) : spec_SyncLog.S ar h (spec_SyncLog.res a0 y) (spec_SyncLog.out a0 y) := ⟨a0, y, H, (args_ok h0).1, (args_ok h0).2, rfl, rfl⟩
set_option maxHeartbeats 100000000 in
set_option maxRecDepth 100000 in
theorem spec_SyncLog.spec (a0 : Log) (y : Log × Bool) (H : spec_SyncLog a0 = some y) : Spec Tryd.prog 26 [(.agg [(.v (.string a0.1)), (.v (.string a0.2.1)), (.v (.int .i64 a0.2.2.1))])] [] (spec_SyncLog.res a0 y) (spec_SyncLog.out a0 y) := by
  refine spec_intro (G43_ok.at tok []) (ct := []) Tryd.func26 rfl (by kernel_rfl) (by kernel_rfl) rfl ?_
  repeat' first
    | ((with_reducible refine eqg ?_); exact rfl)
    | ((with_reducible refine KOb.mk ?_); kernel_rfl)
    | ((with_reducible intro h); (repeat (first | replace H := grd_k H | replace H := out_step H (by assumption))); first | replace H := cond_t h H | replace H := cond_f h H | exact absurd h (by decide) | skip)
    | ((with_reducible refine Ob.mk ?_); first | rfl | (repeat (first | exact grd_p H | (have hp := grd_p H; exact hp) | replace H := grd_k H | replace H := out_step H (by assumption) | (replace H := bind_some H; obtain ⟨_, _, H⟩ := H))))
    | (with_reducible exact True.intro)
    | constructor
    | ((conv => whnf); first
        | ((with_reducible refine Ob.mk ?_); first | rfl | (repeat (first | exact grd_p H | (have hp := grd_p H; exact hp) | replace H := grd_k H | replace H := out_step H (by assumption) | (replace H := bind_some H; obtain ⟨_, _, H⟩ := H))))
        | ((with_reducible refine CallW.mk ?_); (repeat (first | replace H := grd_k H | replace H := out_step H (by assumption))); replace H := bind_some H; obtain ⟨y, hy, H⟩ := H; first | ((with_reducible have hz : spec_l27Log _ = some y := hy); clear hz; refine Exists.intro _ (Exists.intro _ ⟨spec_l27Log.call hy ?_, rfl, rfl, ?_⟩)))
        | ((with_reducible refine fin_mk ?_); (repeat (first | replace H := grd_k H | replace H := out_step H (by assumption))); have H := Option.some.inj H; subst H))
def G44 : Env := G43.add 26 [] spec_SyncLog.S
theorem G44_ok : EnvOk Tryd.prog G44 := G43_ok.add ent_26 fun ar h r h1 ⟨a0, y, hy, e1, e2, e3, e4⟩ => by
  subst e3 e4; exact (spec_SyncLog.spec a0 y hy).le e1 e2
attribute [local irreducible] spec_SyncLog

noncomputable def impl_SyncLog (a0 : Log) : Option (Log × Bool) :=
  ((impl_IsValidLog (a0.1, a0.2.1, a0.2.2.1, ())).bind fun y1 => (cond (!y1) ((some (((ByteArray.mk #[]), (ByteArray.mk #[]), (0 : Int), ()), false))) (grd (a0.1.size + a0.2.1.size ≤ 9223372036854775807) ((some (((a0.1 ++ a0.2.1), (ByteArray.mk #[]), a0.2.2.1, ()), true))))))
def impl_SyncLog.res (_ : Log) (y : Log × Bool) : AV := (.tup [(.agg [(.v (.string y.1.1)), (.v (.string y.1.2.1)), (.v (.int .i64 y.1.2.2.1))]), (.bl y.2)])
def impl_SyncLog.out (_ : Log) (_ : Log × Bool) : List (Option LB) := []
def impl_SyncLog.S (ar : List AV) (h : List (Option LB)) (r : AV) (h1 : List (Option LB)) : Prop := ∃ a0 y, impl_SyncLog a0 = some y ∧ leL ar [(.agg [(.v (.string a0.1)), (.v (.string a0.2.1)), (.v (.int .i64 a0.2.2.1))])] ∧ leH h [] ∧ r = impl_SyncLog.res a0 y ∧ h1 = impl_SyncLog.out a0 y
theorem impl_SyncLog.call {ar : List AV} {h : List (Option LB)} {a0 : Log} {y : Log × Bool} (H : impl_SyncLog a0 = some y) (h0 : leLk ar [(.agg [(.v (.string a0.1)), (.v (.string a0.2.1)), (.v (.int .i64 a0.2.2.1))])] (leHk h [])) : impl_SyncLog.S ar h (impl_SyncLog.res a0 y) (impl_SyncLog.out a0 y) := ⟨a0, y, H, (args_ok h0).1, (args_ok h0).2, rfl, rfl⟩
set_option maxHeartbeats 100000000 in
set_option maxRecDepth 100000 in
theorem impl_SyncLog.spec (a0 : Log) (y : Log × Bool) (H : impl_SyncLog a0 = some y) : Spec Tryd.prog 27 [(.agg [(.v (.string a0.1)), (.v (.string a0.2.1)), (.v (.int .i64 a0.2.2.1))])] [] (impl_SyncLog.res a0 y) (impl_SyncLog.out a0 y) := by
  refine spec_intro (G44_ok.at tok []) (ct := []) Tryd.func27 rfl (by kernel_rfl) (by kernel_rfl) rfl ?_
  repeat' first
    | ((with_reducible refine eqg ?_); exact rfl)
    | ((with_reducible refine KOb.mk ?_); kernel_rfl)
    | ((with_reducible intro h); (repeat (first | replace H := grd_k H | replace H := out_step H (by assumption))); first | replace H := cond_t h H | replace H := cond_f h H | exact absurd h (by decide) | skip)
    | ((with_reducible refine Ob.mk ?_); first | rfl | (repeat (first | exact grd_p H | (have hp := grd_p H; exact hp) | replace H := grd_k H | replace H := out_step H (by assumption) | (replace H := bind_some H; obtain ⟨_, _, H⟩ := H))))
    | (with_reducible exact True.intro)
    | constructor
    | ((conv => whnf); first
        | ((with_reducible refine Ob.mk ?_); first | rfl | (repeat (first | exact grd_p H | (have hp := grd_p H; exact hp) | replace H := grd_k H | replace H := out_step H (by assumption) | (replace H := bind_some H; obtain ⟨_, _, H⟩ := H))))
        | ((with_reducible refine CallW.mk ?_); (repeat (first | replace H := grd_k H | replace H := out_step H (by assumption))); replace H := bind_some H; obtain ⟨y, hy, H⟩ := H; first | ((with_reducible have hz : impl_IsValidLog _ = some y := hy); clear hz; refine Exists.intro _ (Exists.intro _ ⟨impl_IsValidLog.call hy ?_, rfl, rfl, ?_⟩)))
        | ((with_reducible refine fin_mk ?_); (repeat (first | replace H := grd_k H | replace H := out_step H (by assumption))); have H := Option.some.inj H; subst H))
def G45 : Env := G44.add 27 [] impl_SyncLog.S
theorem G45_ok : EnvOk Tryd.prog G45 := G44_ok.add ent_27 fun ar h r h1 ⟨a0, y, hy, e1, e2, e3, e4⟩ => by
  subst e3 e4; exact (impl_SyncLog.spec a0 y hy).le e1 e2
attribute [local irreducible] impl_SyncLog

noncomputable def laws_FnExactSyncLog (a0 : Log) : Option (Bool) :=
  ((laws_szLog (a0.1, a0.2.1, a0.2.2.1, ()) (1048576 : Int)).bind fun y1 => (cond (decide (y1 < (0 : Int))) ((some true)) ((laws_toLog (a0.1, a0.2.1, a0.2.2.1, ())).bind fun y2 => ((spec_SyncLog (y2.1, y2.2.1, y2.2.2.1, ())).bind fun y3 => ((laws_toLog (a0.1, a0.2.1, a0.2.2.1, ())).bind fun y4 => ((impl_SyncLog (y4.1, y4.2.1, y4.2.2.1, ())).bind fun y5 => ((laws_eqLog (y5.1.1, y5.1.2.1, y5.1.2.2.1, ()) (y3.1.1, y3.1.2.1, y3.1.2.2.1, ())).bind fun y6 => (cond (!y6) ((some false)) (cond (!(y5.2 == y3.2)) ((some false)) ((some true)))))))))))
def laws_FnExactSyncLog.res (_ : Log) (y : Bool) : AV := (.bl y)
def laws_FnExactSyncLog.out (_ : Log) (_ : Bool) : List (Option LB) := []
def laws_FnExactSyncLog.S (ar : List AV) (h : List (Option LB)) (r : AV) (h1 : List (Option LB)) : Prop := ∃ a0 y, laws_FnExactSyncLog a0 = some y ∧ leL ar [(.agg [(.v (.string a0.1)), (.v (.string a0.2.1)), (.v (.int .i64 a0.2.2.1))])] ∧ leH h [] ∧ r = laws_FnExactSyncLog.res a0 y ∧ h1 = laws_FnExactSyncLog.out a0 y
theorem laws_FnExactSyncLog.call {ar : List AV} {h : List (Option LB)} {a0 : Log} {y : Bool} (H : laws_FnExactSyncLog a0 = some y) (h0 : leLk ar [(.agg [(.v (.string a0.1)), (.v (.string a0.2.1)), (.v (.int .i64 a0.2.2.1))])] (leHk h [])) : laws_FnExactSyncLog.S ar h (laws_FnExactSyncLog.res a0 y) (laws_FnExactSyncLog.out a0 y) := ⟨a0, y, H, (args_ok h0).1, (args_ok h0).2, rfl, rfl⟩
set_option maxHeartbeats 100000000 in
set_option maxRecDepth 100000 in
theorem laws_FnExactSyncLog.spec (a0 : Log) (y : Bool) (H : laws_FnExactSyncLog a0 = some y) : Spec Tryd.prog 7 [(.agg [(.v (.string a0.1)), (.v (.string a0.2.1)), (.v (.int .i64 a0.2.2.1))])] [] (laws_FnExactSyncLog.res a0 y) (laws_FnExactSyncLog.out a0 y) := by
  refine spec_intro (G45_ok.at tok []) (ct := [(6, some [1, 4, 5, 30, 31, 32]), (8, some [33])]) Tryd.func7 rfl (by kernel_rfl) (by kernel_rfl) rfl ?_
  repeat' first
    | ((with_reducible refine eqg ?_); exact rfl)
    | ((with_reducible refine KOb.mk ?_); kernel_rfl)
    | ((with_reducible intro h); (repeat (first | replace H := grd_k H | replace H := out_step H (by assumption))); first | replace H := cond_t h H | replace H := cond_f h H | exact absurd h (by decide) | skip)
    | ((with_reducible refine Ob.mk ?_); first | rfl | (repeat (first | exact grd_p H | (have hp := grd_p H; exact hp) | replace H := grd_k H | replace H := out_step H (by assumption) | (replace H := bind_some H; obtain ⟨_, _, H⟩ := H))))
    | (with_reducible exact True.intro)
    | constructor
    | ((conv => whnf); first
        | ((with_reducible refine Ob.mk ?_); first | rfl | (repeat (first | exact grd_p H | (have hp := grd_p H; exact hp) | replace H := grd_k H | replace H := out_step H (by assumption) | (replace H := bind_some H; obtain ⟨_, _, H⟩ := H))))
        | ((with_reducible refine CallW.mk ?_); (repeat (first | replace H := grd_k H | replace H := out_step H (by assumption))); replace H := bind_some H; obtain ⟨y, hy, H⟩ := H; first | ((with_reducible have hz : laws_szLog _ _ = some y := hy); clear hz; refine Exists.intro _ (Exists.intro _ ⟨laws_szLog.call hy ?_, rfl, rfl, ?_⟩)) | ((with_reducible have hz : laws_toLog _ = some y := hy); clear hz; refine Exists.intro _ (Exists.intro _ ⟨laws_toLog.call hy ?_, rfl, rfl, ?_⟩)) | ((with_reducible have hz : spec_SyncLog _ = some y := hy); clear hz; refine Exists.intro _ (Exists.intro _ ⟨spec_SyncLog.call hy ?_, rfl, rfl, ?_⟩)) | ((with_reducible have hz : impl_SyncLog _ = some y := hy); clear hz; refine Exists.intro _ (Exists.intro _ ⟨impl_SyncLog.call hy ?_, rfl, rfl, ?_⟩)) | ((with_reducible have hz : laws_eqLog _ _ = some y := hy); clear hz; refine Exists.intro _ (Exists.intro _ ⟨laws_eqLog.call hy ?_, rfl, rfl, ?_⟩)))
        | ((with_reducible refine fin_mk ?_); (repeat (first | replace H := grd_k H | replace H := out_step H (by assumption))); have H := Option.some.inj H; subst H))
def G46 : Env := G45.add 7 [] laws_FnExactSyncLog.S
theorem G46_ok : EnvOk Tryd.prog G46 := G45_ok.add ent_7 fun ar h r h1 ⟨a0, y, hy, e1, e2, e3, e4⟩ => by
  subst e3 e4; exact (laws_FnExactSyncLog.spec a0 y hy).le e1 e2
attribute [local irreducible] laws_FnExactSyncLog

noncomputable def spec_AppendRecord (a0 : Log) (a1 : LogRecord) : Option (Log × Int) :=
  ((spec_l27Log (a0.1, a0.2.1, a0.2.2.1, ())).bind fun y1 => (cond (!y1) ((some ((a0.1, a0.2.1, a0.2.2.1, ()), (1 : Int)))) ((spec_l27Good (a1.1, a1.2.1, ())).bind fun y2 => (cond (!y2) ((some ((a0.1, a0.2.1, a0.2.2.1, ()), (1 : Int)))) (cond (decide (a0.2.2.1 = (60 : Int))) ((some ((a0.1, a0.2.1, a0.2.2.1, ()), (2 : Int)))) ((spec_l27Line a0.2.2.1 (a1.1, a1.2.1, ())).bind fun y3 => (grd (a0.2.1.size + y3.size ≤ 9223372036854775807) ((some ((a0.1, (a0.2.1 ++ y3), (w64 (a0.2.2.1 + (1 : Int))), ()), (0 : Int)))))))))))
def spec_AppendRecord.res (_ : Log) (_ : LogRecord) (y : Log × Int) : AV := (.tup [(.agg [(.v (.string y.1.1)), (.v (.string y.1.2.1)), (.v (.int .i64 y.1.2.2.1))]), (.v (.int .i64 y.2))])
def spec_AppendRecord.out (_ : Log) (_ : LogRecord) (_ : Log × Int) : List (Option LB) := []
def spec_AppendRecord.S (ar : List AV) (h : List (Option LB)) (r : AV) (h1 : List (Option LB)) : Prop := ∃ a0 a1 y, spec_AppendRecord a0 a1 = some y ∧ leL ar [(.agg [(.v (.string a0.1)), (.v (.string a0.2.1)), (.v (.int .i64 a0.2.2.1))]), (.agg [(.v (.string a1.1)), (.v (.string a1.2.1))])] ∧ leH h [] ∧ r = spec_AppendRecord.res a0 a1 y ∧ h1 = spec_AppendRecord.out a0 a1 y
theorem spec_AppendRecord.call {ar : List AV} {h : List (Option LB)} {a0 : Log} {a1 : LogRecord} {y : Log × Int} (H : spec_AppendRecord a0 a1 = some y) (h0 : leLk ar [(.agg [(.v (.string a0.1)), (.v (.string a0.2.1)), (.v (.int .i64 a0.2.2.1))]), (.agg [(.v (.string a1.1)), (.v (.string a1.2.1))])] (leHk h [])) : spec_AppendRecord.S ar h (spec_AppendRecord.res a0 a1 y) (spec_AppendRecord.out a0 a1 y) := ⟨a0, a1, y, H, (args_ok h0).1, (args_ok h0).2, rfl, rfl⟩
set_option maxHeartbeats 100000000 in
set_option maxRecDepth 100000 in
theorem spec_AppendRecord.spec (a0 : Log) (a1 : LogRecord) (y : Log × Int) (H : spec_AppendRecord a0 a1 = some y) : Spec Tryd.prog 28 [(.agg [(.v (.string a0.1)), (.v (.string a0.2.1)), (.v (.int .i64 a0.2.2.1))]), (.agg [(.v (.string a1.1)), (.v (.string a1.2.1))])] [] (spec_AppendRecord.res a0 a1 y) (spec_AppendRecord.out a0 a1 y) := by
  refine spec_intro (G46_ok.at tok []) (ct := [(3, some [2, 3, 4]), (7, some [2, 4])]) Tryd.func28 rfl (by kernel_rfl) (by kernel_rfl) rfl ?_
  repeat' first
    | ((with_reducible refine eqg ?_); exact rfl)
    | ((with_reducible refine KOb.mk ?_); kernel_rfl)
    | ((with_reducible intro h); (repeat (first | replace H := grd_k H | replace H := out_step H (by assumption))); first | replace H := cond_t h H | replace H := cond_f h H | exact absurd h (by decide) | skip)
    | ((with_reducible refine Ob.mk ?_); first | rfl | (repeat (first | exact grd_p H | (have hp := grd_p H; exact hp) | replace H := grd_k H | replace H := out_step H (by assumption) | (replace H := bind_some H; obtain ⟨_, _, H⟩ := H))))
    | (with_reducible exact True.intro)
    | constructor
    | ((conv => whnf); first
        | ((with_reducible refine Ob.mk ?_); first | rfl | (repeat (first | exact grd_p H | (have hp := grd_p H; exact hp) | replace H := grd_k H | replace H := out_step H (by assumption) | (replace H := bind_some H; obtain ⟨_, _, H⟩ := H))))
        | ((with_reducible refine CallW.mk ?_); (repeat (first | replace H := grd_k H | replace H := out_step H (by assumption))); replace H := bind_some H; obtain ⟨y, hy, H⟩ := H; first | ((with_reducible have hz : spec_l27Log _ = some y := hy); clear hz; refine Exists.intro _ (Exists.intro _ ⟨spec_l27Log.call hy ?_, rfl, rfl, ?_⟩)) | ((with_reducible have hz : spec_l27Good _ = some y := hy); clear hz; refine Exists.intro _ (Exists.intro _ ⟨spec_l27Good.call hy ?_, rfl, rfl, ?_⟩)) | ((with_reducible have hz : spec_l27Line _ _ = some y := hy); clear hz; refine Exists.intro _ (Exists.intro _ ⟨spec_l27Line.call hy ?_, rfl, rfl, ?_⟩)))
        | ((with_reducible refine fin_mk ?_); (repeat (first | replace H := grd_k H | replace H := out_step H (by assumption))); have H := Option.some.inj H; subst H))
def G47 : Env := G46.add 28 [] spec_AppendRecord.S
theorem G47_ok : EnvOk Tryd.prog G47 := G46_ok.add ent_28 fun ar h r h1 ⟨a0, a1, y, hy, e1, e2, e3, e4⟩ => by
  subst e3 e4; exact (spec_AppendRecord.spec a0 a1 y hy).le e1 e2
attribute [local irreducible] spec_AppendRecord

noncomputable def impl_AppendRecord (a0 : Log) (a1 : LogRecord) : Option (Log × Int) :=
  ((impl_IsValidLog (a0.1, a0.2.1, a0.2.2.1, ())).bind fun y1 => (cond (!y1) ((some ((a0.1, a0.2.1, a0.2.2.1, ()), (1 : Int)))) ((impl_IsValidRecord (a1.1, a1.2.1, ())).bind fun y2 => (cond (!y2) ((some ((a0.1, a0.2.1, a0.2.2.1, ()), (1 : Int)))) (cond (decide (a0.2.2.1 = (60 : Int))) ((some ((a0.1, a0.2.1, a0.2.2.1, ()), (2 : Int)))) ((impl_encodeRecord a0.2.2.1 (a1.1, a1.2.1, ())).bind fun y3 => (grd (a0.2.1.size + y3.size ≤ 9223372036854775807) ((some ((a0.1, (a0.2.1 ++ y3), (w64 (a0.2.2.1 + (1 : Int))), ()), (0 : Int)))))))))))
def impl_AppendRecord.res (_ : Log) (_ : LogRecord) (y : Log × Int) : AV := (.tup [(.agg [(.v (.string y.1.1)), (.v (.string y.1.2.1)), (.v (.int .i64 y.1.2.2.1))]), (.v (.int .i64 y.2))])
def impl_AppendRecord.out (_ : Log) (_ : LogRecord) (_ : Log × Int) : List (Option LB) := []
def impl_AppendRecord.S (ar : List AV) (h : List (Option LB)) (r : AV) (h1 : List (Option LB)) : Prop := ∃ a0 a1 y, impl_AppendRecord a0 a1 = some y ∧ leL ar [(.agg [(.v (.string a0.1)), (.v (.string a0.2.1)), (.v (.int .i64 a0.2.2.1))]), (.agg [(.v (.string a1.1)), (.v (.string a1.2.1))])] ∧ leH h [] ∧ r = impl_AppendRecord.res a0 a1 y ∧ h1 = impl_AppendRecord.out a0 a1 y
theorem impl_AppendRecord.call {ar : List AV} {h : List (Option LB)} {a0 : Log} {a1 : LogRecord} {y : Log × Int} (H : impl_AppendRecord a0 a1 = some y) (h0 : leLk ar [(.agg [(.v (.string a0.1)), (.v (.string a0.2.1)), (.v (.int .i64 a0.2.2.1))]), (.agg [(.v (.string a1.1)), (.v (.string a1.2.1))])] (leHk h [])) : impl_AppendRecord.S ar h (impl_AppendRecord.res a0 a1 y) (impl_AppendRecord.out a0 a1 y) := ⟨a0, a1, y, H, (args_ok h0).1, (args_ok h0).2, rfl, rfl⟩
set_option maxHeartbeats 100000000 in
set_option maxRecDepth 100000 in
theorem impl_AppendRecord.spec (a0 : Log) (a1 : LogRecord) (y : Log × Int) (H : impl_AppendRecord a0 a1 = some y) : Spec Tryd.prog 29 [(.agg [(.v (.string a0.1)), (.v (.string a0.2.1)), (.v (.int .i64 a0.2.2.1))]), (.agg [(.v (.string a1.1)), (.v (.string a1.2.1))])] [] (impl_AppendRecord.res a0 a1 y) (impl_AppendRecord.out a0 a1 y) := by
  refine spec_intro (G47_ok.at tok []) (ct := [(4, some [2, 3, 4, 16]), (5, some [2, 3, 4])]) Tryd.func29 rfl (by kernel_rfl) (by kernel_rfl) rfl ?_
  repeat' first
    | ((with_reducible refine eqg ?_); exact rfl)
    | ((with_reducible refine KOb.mk ?_); kernel_rfl)
    | ((with_reducible intro h); (repeat (first | replace H := grd_k H | replace H := out_step H (by assumption))); first | replace H := cond_t h H | replace H := cond_f h H | exact absurd h (by decide) | skip)
    | ((with_reducible refine Ob.mk ?_); first | rfl | (repeat (first | exact grd_p H | (have hp := grd_p H; exact hp) | replace H := grd_k H | replace H := out_step H (by assumption) | (replace H := bind_some H; obtain ⟨_, _, H⟩ := H))))
    | (with_reducible exact True.intro)
    | constructor
    | ((conv => whnf); first
        | ((with_reducible refine Ob.mk ?_); first | rfl | (repeat (first | exact grd_p H | (have hp := grd_p H; exact hp) | replace H := grd_k H | replace H := out_step H (by assumption) | (replace H := bind_some H; obtain ⟨_, _, H⟩ := H))))
        | ((with_reducible refine CallW.mk ?_); (repeat (first | replace H := grd_k H | replace H := out_step H (by assumption))); replace H := bind_some H; obtain ⟨y, hy, H⟩ := H; first | ((with_reducible have hz : impl_IsValidLog _ = some y := hy); clear hz; refine Exists.intro _ (Exists.intro _ ⟨impl_IsValidLog.call hy ?_, rfl, rfl, ?_⟩)) | ((with_reducible have hz : impl_IsValidRecord _ = some y := hy); clear hz; refine Exists.intro _ (Exists.intro _ ⟨impl_IsValidRecord.call hy ?_, rfl, rfl, ?_⟩)) | ((with_reducible have hz : impl_encodeRecord _ _ = some y := hy); clear hz; refine Exists.intro _ (Exists.intro _ ⟨impl_encodeRecord.call hy ?_, rfl, rfl, ?_⟩)))
        | ((with_reducible refine fin_mk ?_); (repeat (first | replace H := grd_k H | replace H := out_step H (by assumption))); have H := Option.some.inj H; subst H))
def G48 : Env := G47.add 29 [] impl_AppendRecord.S
theorem G48_ok : EnvOk Tryd.prog G48 := G47_ok.add ent_29 fun ar h r h1 ⟨a0, a1, y, hy, e1, e2, e3, e4⟩ => by
  subst e3 e4; exact (impl_AppendRecord.spec a0 a1 y hy).le e1 e2
attribute [local irreducible] impl_AppendRecord

end Go.Proofs.YtpfdhaldjeedfaaDoor
