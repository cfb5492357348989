/-
  Contracts, printed by a program.
-/
import Derived.Test.YtpfdhaldjeedfaaDoorC208
namespace Go.Proofs.YtpfdhaldjeedfaaDoor
open Go.RowKit
attribute [local irreducible] Ob loopwp Sub Spec Fin Again CallW CutC KOb iter joinx outm

attribute [local irreducible] laws_szLogRecord laws_toLogRecord spec_l1In spec_l27Plain spec_l1Stands spec_l27Good spec_l1Num spec_l1Num_f spec_l1Sum spec_l1Seal spec_l27Line spec_EncodeRecord impl_within strings_ContainsAny impl_isPlain impl_IsValidRecord strconv_Itoa strings_Contains impl_checksum impl_AppendChecksum impl_encodeRecord impl_EncodeRecord laws_FnExactEncodeRecord spec_l1Split spec_l27Read spec_l27Open spec_RecoverLog strings_Cut impl_VerifyChecksum internal_stringslite_HasPrefix internal_stringslite_CutPrefix strings_CutPrefix impl_decodeRecord impl_readRecords impl_RecoverLog laws_eqLog laws_FnExactRecoverLog laws_szLog laws_toLog spec_l27Log spec_IsValidLog impl_Log_records impl_IsValidLog laws_FnExactIsValidLog spec_SyncLog impl_SyncLog laws_FnExactSyncLog spec_AppendRecord impl_AppendRecord

noncomputable def laws_FnExactAppendRecord (a0 : Log) (a1 : LogRecord) : Option (Bool) :=
  ((laws_szLog (a0.1, a0.2.1, a0.2.2.1, ()) (1048576 : Int)).bind fun y1 => (cond (decide (y1 < (0 : Int))) ((some true)) ((laws_szLogRecord (a1.1, a1.2.1, ()) y1).bind fun y2 => (cond (decide (y2 < (0 : Int))) ((some true)) (((laws_toLog (a0.1, a0.2.1, a0.2.2.1, ())).bind fun y3 => ((laws_toLogRecord (a1.1, a1.2.1, ())).bind fun y4 => ((spec_AppendRecord (y3.1, y3.2.1, y3.2.2.1, ()) (y4.1, y4.2.1, ())).bind fun y5 => (some ((Tg.mk : Tg 1), y5.2, y5.1.1, y5.1.2.1, y5.1.2.2.1))))).bind fun z6 => (((laws_toLog (a0.1, a0.2.1, a0.2.2.1, ())).bind fun y7 => ((laws_toLogRecord (a1.1, a1.2.1, ())).bind fun y8 => ((impl_AppendRecord (y7.1, y7.2.1, y7.2.2.1, ()) (y8.1, y8.2.1, ())).bind fun y9 => (some ((Tg.mk : Tg 2), z6.2.1, y9.2, z6.2.2.1, z6.2.2.2.1, z6.2.2.2.2, y9.1.1, y9.1.2.1, y9.1.2.2.1))))).bind fun z10 => ((laws_eqLog (z10.2.2.2.2.2.2.1, z10.2.2.2.2.2.2.2.1, z10.2.2.2.2.2.2.2.2, ()) (z10.2.2.2.1, z10.2.2.2.2.1, z10.2.2.2.2.2.1, ())).bind fun y11 => (cond (!y11) ((some false)) (cond (!decide (z10.2.2.1 = z10.2.1)) ((some false)) ((some true)))))))))))
def laws_FnExactAppendRecord.res (_ : Log) (_ : LogRecord) (y : Bool) : AV := (.bl y)
def laws_FnExactAppendRecord.out (_ : Log) (_ : LogRecord) (_ : Bool) : List (Option LB) := []
def laws_FnExactAppendRecord.S (ar : List AV) (h : List (Option LB)) (r : AV) (h1 : List (Option LB)) : Prop := ∃ a0 a1 y, laws_FnExactAppendRecord a0 a1 = some y ∧ leL ar [(.agg [(.v (.string a0.1)), (.v (.string a0.2.1)), (.v (.int .i64 a0.2.2.1))]), (.agg [(.v (.string a1.1)), (.v (.string a1.2.1))])] ∧ leH h [] ∧ r = laws_FnExactAppendRecord.res a0 a1 y ∧ h1 = laws_FnExactAppendRecord.out a0 a1 y
theorem laws_FnExactAppendRecord.call {ar : List AV} {h : List (Option LB)} {a0 : Log} {a1 : LogRecord} {y : Bool} (H : laws_FnExactAppendRecord a0 a1 = some y) (h0 : leLk ar [(.agg [(.v (.string a0.1)), (.v (.string a0.2.1)), (.v (.int .i64 a0.2.2.1))]), (.agg [(.v (.string a1.1)), (.v (.string a1.2.1))])] (leHk h [])) : laws_FnExactAppendRecord.S ar h (laws_FnExactAppendRecord.res a0 a1 y) (laws_FnExactAppendRecord.out a0 a1 y) := ⟨a0, a1, y, H, (args_ok h0).1, (args_ok h0).2, rfl, rfl⟩
set_option maxHeartbeats 100000000 in
set_option maxRecDepth 100000 in
theorem laws_FnExactAppendRecord.spec (a0 : Log) (a1 : LogRecord) (y : Bool) (H : laws_FnExactAppendRecord a0 a1 = some y) : Spec Tryd.prog 8 [(.agg [(.v (.string a0.1)), (.v (.string a0.2.1)), (.v (.int .i64 a0.2.2.1))]), (.agg [(.v (.string a1.1)), (.v (.string a1.2.1))])] [] (laws_FnExactAppendRecord.res a0 a1 y) (laws_FnExactAppendRecord.out a0 a1 y) := by
  refine spec_intro (G48_ok.at tok []) (ct := [(9, none), (10, none), (6, some [2, 3, 5, 41, 42, 43])]) Tryd.func8 rfl (by kernel_rfl) (by kernel_rfl) rfl ?_
  repeat' first
    | ((with_reducible refine eqg ?_); exact rfl)
    | ((with_reducible refine KOb.mk ?_); kernel_rfl)
    | ((with_reducible intro h); (repeat (first | replace H := grd_k H | replace H := out_step H (by assumption))); first | replace H := cond_t h H | replace H := cond_f h H | exact absurd h (by decide) | skip)
    | ((with_reducible refine Ob.mk ?_); first | rfl | (repeat (first | exact grd_p H | (have hp := grd_p H; exact hp) | replace H := grd_k H | replace H := out_step H (by assumption) | (replace H := bind_some H; obtain ⟨_, _, H⟩ := H))))
    | (with_reducible exact True.intro)
    | constructor
    | ((conv => whnf); first
        | ((with_reducible refine Ob.mk ?_); first | rfl | (repeat (first | exact grd_p H | (have hp := grd_p H; exact hp) | replace H := grd_k H | replace H := out_step H (by assumption) | (replace H := bind_some H; obtain ⟨_, _, H⟩ := H))))
        | ((with_reducible refine CallW.mk ?_); (repeat (first | replace H := grd_k H | replace H := out_step H (by assumption))); replace H := bind_some H; obtain ⟨y, hy, H⟩ := H; first | ((with_reducible have hz : laws_szLog _ _ = some y := hy); clear hz; refine Exists.intro _ (Exists.intro _ ⟨laws_szLog.call hy ?_, rfl, rfl, ?_⟩)) | ((with_reducible have hz : laws_szLogRecord _ _ = some y := hy); clear hz; refine Exists.intro _ (Exists.intro _ ⟨laws_szLogRecord.call hy ?_, rfl, rfl, ?_⟩)) | ((with_reducible have hz : laws_toLog _ = some y := hy); clear hz; refine Exists.intro _ (Exists.intro _ ⟨laws_toLog.call hy ?_, rfl, rfl, ?_⟩)) | ((with_reducible have hz : laws_toLogRecord _ = some y := hy); clear hz; refine Exists.intro _ (Exists.intro _ ⟨laws_toLogRecord.call hy ?_, rfl, rfl, ?_⟩)) | ((with_reducible have hz : spec_AppendRecord _ _ = some y := hy); clear hz; refine Exists.intro _ (Exists.intro _ ⟨spec_AppendRecord.call hy ?_, rfl, rfl, ?_⟩)) | ((with_reducible have hz : impl_AppendRecord _ _ = some y := hy); clear hz; refine Exists.intro _ (Exists.intro _ ⟨impl_AppendRecord.call hy ?_, rfl, rfl, ?_⟩)) | ((with_reducible have hz : laws_eqLog _ _ = some y := hy); clear hz; refine Exists.intro _ (Exists.intro _ ⟨laws_eqLog.call hy ?_, rfl, rfl, ?_⟩)))
        | ((with_reducible refine cutAt (id := 9) ?_); (repeat (first | replace H := grd_k H | replace H := out_step H (by assumption))); first | (replace H := bind_some H; obtain ⟨z, hz, H⟩ := H; have hT : Tg 1 × Int × ByteArray × ByteArray × Int := z; clear hT; refine CutC.mk (id := 9) ⟨sl [(2, (.loc 0 0 0)), (3, (.loc 1 0 0)), (6, (.loc 2 0 0)), (7, (.v (.int .i64 z.2.1)))], [some (.box 36 [(.v (.string a0.1)), (.v (.string a0.2.1)), (.v (.int .i64 a0.2.2.1))]), some (.box 23 [(.v (.string a1.1)), (.v (.string a1.2.1))]), some (.box 31 [(.v (.string z.2.2.1)), (.v (.string z.2.2.2.1)), (.v (.int .i64 z.2.2.2.2))])]⟩ ?_ ?_; (replace H := hz)))
        | ((with_reducible refine cutAt (id := 10) ?_); (repeat (first | replace H := grd_k H | replace H := out_step H (by assumption))); first | (replace H := bind_some H; obtain ⟨z, hz, H⟩ := H; have hT : Tg 2 × Int × Int × ByteArray × ByteArray × Int × ByteArray × ByteArray × Int := z; clear hT; refine CutC.mk (id := 10) ⟨sl [(6, (.loc 0 0 0)), (7, (.v (.int .i64 z.2.1))), (8, (.loc 1 0 0)), (9, (.v (.int .i64 z.2.2.1)))], [some (.box 31 [(.v (.string z.2.2.2.1)), (.v (.string z.2.2.2.2.1)), (.v (.int .i64 z.2.2.2.2.2.1))]), some (.box 31 [(.v (.string z.2.2.2.2.2.2.1)), (.v (.string z.2.2.2.2.2.2.2.1)), (.v (.int .i64 z.2.2.2.2.2.2.2.2))])]⟩ ?_ ?_; (replace H := hz)))
        | ((repeat (first | replace H := grd_k H | replace H := out_step H (by assumption))); have H := Option.some.inj H; subst H; with_reducible refine sub_auto ?_)
        | ((with_reducible refine fin_mk ?_); (repeat (first | replace H := grd_k H | replace H := out_step H (by assumption))); have H := Option.some.inj H; subst H))
def G49 : Env := G48.add 8 [] laws_FnExactAppendRecord.S
theorem G49_ok : EnvOk Tryd.prog G49 := G48_ok.add ent_8 fun ar h r h1 ⟨a0, a1, y, hy, e1, e2, e3, e4⟩ => by
  subst e3 e4; exact (laws_FnExactAppendRecord.spec a0 a1 y hy).le e1 e2
attribute [local irreducible] laws_FnExactAppendRecord

noncomputable def spec_LogRecords (a0 : Log) : Option ((List LogRecord) × Bool) :=
  ((spec_l27Log (a0.1, a0.2.1, a0.2.2.1, ())).bind fun y1 => (cond (!y1) ((some (([] : List LogRecord), false))) (grd (a0.1.size + a0.2.1.size ≤ 9223372036854775807) ((spec_l27Open (a0.1 ++ a0.2.1)).bind fun y2 => (some (y2.1, true))))))
def spec_LogRecords.res (_ : Log) (y : (List LogRecord) × Bool) : AV := (.tup [(.own 0), (.bl y.2)])
def spec_LogRecords.out (_ : Log) (y : (List LogRecord) × Bool) : List (Option LB) := [some (.arr 27 ty_LogRecord y.1)]
def spec_LogRecords.S (ar : List AV) (h : List (Option LB)) (r : AV) (h1 : List (Option LB)) : Prop := ∃ a0 y, spec_LogRecords a0 = some y ∧ leL ar [(.agg [(.v (.string a0.1)), (.v (.string a0.2.1)), (.v (.int .i64 a0.2.2.1))])] ∧ leH h [] ∧ r = spec_LogRecords.res a0 y ∧ h1 = spec_LogRecords.out a0 y
theorem spec_LogRecords.call {ar : List AV} {h : List (Option LB)} {a0 : Log} {y : (List LogRecord) × Bool} (H : spec_LogRecords a0 = some y) (h0 : leLk ar [(.agg [(.v (.string a0.1)), (.v (.string a0.2.1)), (.v (.int .i64 a0.2.2.1))])] (leHk h [])) : spec_LogRecords.S ar h (spec_LogRecords.res a0 y) (spec_LogRecords.out a0 y) := ⟨a0, y, H, (args_ok h0).1, (args_ok h0).2, rfl, rfl⟩
set_option maxHeartbeats 100000000 in
set_option maxRecDepth 100000 in
theorem spec_LogRecords.spec (a0 : Log) (y : (List LogRecord) × Bool) (H : spec_LogRecords a0 = some y) : Spec Tryd.prog 30 [(.agg [(.v (.string a0.1)), (.v (.string a0.2.1)), (.v (.int .i64 a0.2.2.1))])] [] (spec_LogRecords.res a0 y) (spec_LogRecords.out a0 y) := by
  refine spec_intro (G49_ok.at tok []) (ct := [(4, some [4])]) Tryd.func30 rfl (by kernel_rfl) (by kernel_rfl) rfl ?_
  repeat' first
    | ((with_reducible refine eqg ?_); exact rfl)
    | ((with_reducible refine KOb.mk ?_); kernel_rfl)
    | ((with_reducible intro h); (repeat (first | replace H := grd_k H | replace H := out_step H (by assumption))); first | replace H := cond_t h H | replace H := cond_f h H | exact absurd h (by decide) | skip)
    | ((with_reducible refine Ob.mk ?_); first | rfl | (repeat (first | exact grd_p H | (have hp := grd_p H; exact hp) | replace H := grd_k H | replace H := out_step H (by assumption) | (replace H := bind_some H; obtain ⟨_, _, H⟩ := H))))
    | (with_reducible exact True.intro)
    | constructor
    | ((conv => whnf); first
        | ((with_reducible refine Ob.mk ?_); first | rfl | (repeat (first | exact grd_p H | (have hp := grd_p H; exact hp) | replace H := grd_k H | replace H := out_step H (by assumption) | (replace H := bind_some H; obtain ⟨_, _, H⟩ := H))))
        | ((with_reducible refine CallW.mk ?_); (repeat (first | replace H := grd_k H | replace H := out_step H (by assumption))); replace H := bind_some H; obtain ⟨y, hy, H⟩ := H; first | ((with_reducible have hz : spec_l27Log _ = some y := hy); clear hz; refine Exists.intro _ (Exists.intro _ ⟨spec_l27Log.call hy ?_, rfl, rfl, ?_⟩)) | ((with_reducible have hz : spec_l27Open _ = some y := hy); clear hz; refine Exists.intro _ (Exists.intro _ ⟨spec_l27Open.call hy ?_, rfl, rfl, ?_⟩)))
        | ((with_reducible refine fin_mk ?_); (repeat (first | replace H := grd_k H | replace H := out_step H (by assumption))); have H := Option.some.inj H; subst H))
def G50 : Env := G49.add 30 [] spec_LogRecords.S
theorem G50_ok : EnvOk Tryd.prog G50 := G49_ok.add ent_30 fun ar h r h1 ⟨a0, y, hy, e1, e2, e3, e4⟩ => by
  subst e3 e4; exact (spec_LogRecords.spec a0 y hy).le e1 e2
attribute [local irreducible] spec_LogRecords

noncomputable def impl_LogRecords (a0 : Log) : Option ((Unit) ⊕ ((List LogRecord))) :=
  ((impl_Log_records (a0.1, a0.2.1, a0.2.2.1, ())).bind fun y1 => (cond (!y1.2) ((some (Sum.inl ()))) ((some (Sum.inr y1.1)))))
def impl_LogRecords.res (_ : Log) (y : (Unit) ⊕ ((List LogRecord))) : AV := match y with
  | (.inl y) => (.tup [(.v (.slice none 0 0)), (.v (.bool false))])
  | (.inr y) => (.tup [(.own 0), (.v (.bool true))])
def impl_LogRecords.out (_ : Log) (y : (Unit) ⊕ ((List LogRecord))) : List (Option LB) := match y with
  | (.inl y) => []
  | (.inr y) => [some (.arr 27 ty_LogRecord y)]
def impl_LogRecords.S (ar : List AV) (h : List (Option LB)) (r : AV) (h1 : List (Option LB)) : Prop := ∃ a0 y, impl_LogRecords a0 = some y ∧ leL ar [(.agg [(.v (.string a0.1)), (.v (.string a0.2.1)), (.v (.int .i64 a0.2.2.1))])] ∧ leH h [] ∧ r = impl_LogRecords.res a0 y ∧ h1 = impl_LogRecords.out a0 y
theorem impl_LogRecords.call {ar : List AV} {h : List (Option LB)} {a0 : Log} {y : (Unit) ⊕ ((List LogRecord))} (H : impl_LogRecords a0 = some y) (h0 : leLk ar [(.agg [(.v (.string a0.1)), (.v (.string a0.2.1)), (.v (.int .i64 a0.2.2.1))])] (leHk h [])) : impl_LogRecords.S ar h (impl_LogRecords.res a0 y) (impl_LogRecords.out a0 y) := ⟨a0, y, H, (args_ok h0).1, (args_ok h0).2, rfl, rfl⟩
set_option maxHeartbeats 100000000 in
set_option maxRecDepth 100000 in
theorem impl_LogRecords.spec (a0 : Log) (y : (Unit) ⊕ ((List LogRecord))) (H : impl_LogRecords a0 = some y) : Spec Tryd.prog 31 [(.agg [(.v (.string a0.1)), (.v (.string a0.2.1)), (.v (.int .i64 a0.2.2.1))])] [] (impl_LogRecords.res a0 y) (impl_LogRecords.out a0 y) := by
  have hlen : Nat.ble ([] : List (Option LB)).length (impl_LogRecords.out a0 y).length = true := by
    rcases y with y | y <;> rfl
  refine spec_intro (G50_ok.at tok []) (ct := [(4, some [4])]) Tryd.func31 rfl (by kernel_rfl) (by kernel_rfl) hlen ?_
  repeat' first
    | ((with_reducible refine eqg ?_); exact rfl)
    | ((with_reducible refine KOb.mk ?_); kernel_rfl)
    | ((with_reducible intro h); (repeat (first | replace H := grd_k H | replace H := out_step H (by assumption))); first | replace H := cond_t h H | replace H := cond_f h H | exact absurd h (by decide) | skip)
    | ((with_reducible refine Ob.mk ?_); first | rfl | (repeat (first | exact grd_p H | (have hp := grd_p H; exact hp) | replace H := grd_k H | replace H := out_step H (by assumption) | (replace H := bind_some H; obtain ⟨_, _, H⟩ := H))))
    | (with_reducible exact True.intro)
    | constructor
    | ((conv => whnf); first
        | ((with_reducible refine Ob.mk ?_); first | rfl | (repeat (first | exact grd_p H | (have hp := grd_p H; exact hp) | replace H := grd_k H | replace H := out_step H (by assumption) | (replace H := bind_some H; obtain ⟨_, _, H⟩ := H))))
        | ((with_reducible refine CallW.mk ?_); (repeat (first | replace H := grd_k H | replace H := out_step H (by assumption))); replace H := bind_some H; obtain ⟨y, hy, H⟩ := H; first | ((with_reducible have hz : impl_Log_records _ = some y := hy); clear hz; refine Exists.intro _ (Exists.intro _ ⟨impl_Log_records.call hy ?_, rfl, rfl, ?_⟩)))
        | ((with_reducible refine fin_mk ?_); (repeat (first | replace H := grd_k H | replace H := out_step H (by assumption))); have H := Option.some.inj H; subst H))
def G51 : Env := G50.add 31 [] impl_LogRecords.S
theorem G51_ok : EnvOk Tryd.prog G51 := G50_ok.add ent_31 fun ar h r h1 ⟨a0, y, hy, e1, e2, e3, e4⟩ => by
  subst e3 e4; exact (impl_LogRecords.spec a0 y hy).le e1 e2
attribute [local irreducible] impl_LogRecords

noncomputable def laws_eqLogRecord (a0 : LogRecord) (a1 : LogRecord) : Option (Bool) :=
  (cond (!decide (a0.1 = a1.1)) ((some false)) (cond (!decide (a0.2.1 = a1.2.1)) ((some false)) ((some true))))
def laws_eqLogRecord.res (_ : LogRecord) (_ : LogRecord) (y : Bool) : AV := (.bl y)
def laws_eqLogRecord.out (_ : LogRecord) (_ : LogRecord) (_ : Bool) : List (Option LB) := []
def laws_eqLogRecord.S (ar : List AV) (h : List (Option LB)) (r : AV) (h1 : List (Option LB)) : Prop := ∃ a0 a1 y, laws_eqLogRecord a0 a1 = some y ∧ leL ar [(.agg [(.v (.string a0.1)), (.v (.string a0.2.1))]), (.agg [(.v (.string a1.1)), (.v (.string a1.2.1))])] ∧ leH h [] ∧ r = laws_eqLogRecord.res a0 a1 y ∧ h1 = laws_eqLogRecord.out a0 a1 y
theorem laws_eqLogRecord.call {ar : List AV} {h : List (Option LB)} {a0 : LogRecord} {a1 : LogRecord} {y : Bool} (H : laws_eqLogRecord a0 a1 = some y) (h0 : leLk ar [(.agg [(.v (.string a0.1)), (.v (.string a0.2.1))]), (.agg [(.v (.string a1.1)), (.v (.string a1.2.1))])] (leHk h [])) : laws_eqLogRecord.S ar h (laws_eqLogRecord.res a0 a1 y) (laws_eqLogRecord.out a0 a1 y) := ⟨a0, a1, y, H, (args_ok h0).1, (args_ok h0).2, rfl, rfl⟩
set_option maxHeartbeats 100000000 in
set_option maxRecDepth 100000 in
theorem laws_eqLogRecord.spec (a0 : LogRecord) (a1 : LogRecord) (y : Bool) (H : laws_eqLogRecord a0 a1 = some y) : Spec Tryd.prog 51 [(.agg [(.v (.string a0.1)), (.v (.string a0.2.1))]), (.agg [(.v (.string a1.1)), (.v (.string a1.2.1))])] [] (laws_eqLogRecord.res a0 a1 y) (laws_eqLogRecord.out a0 a1 y) := by
  refine spec_intro (G51_ok.at tok []) (ct := [(4, some [14])]) Tryd.func51 rfl (by kernel_rfl) (by kernel_rfl) rfl ?_
  repeat' first
    | ((with_reducible refine eqg ?_); exact rfl)
    | ((with_reducible refine KOb.mk ?_); kernel_rfl)
    | ((with_reducible intro h); (repeat (first | replace H := grd_k H | replace H := out_step H (by assumption))); first | replace H := cond_t h H | replace H := cond_f h H | exact absurd h (by decide) | skip)
    | ((with_reducible refine Ob.mk ?_); first | rfl | (repeat (first | exact grd_p H | (have hp := grd_p H; exact hp) | replace H := grd_k H | replace H := out_step H (by assumption) | (replace H := bind_some H; obtain ⟨_, _, H⟩ := H))))
    | (with_reducible exact True.intro)
    | constructor
    | ((conv => whnf); first
        | ((with_reducible refine Ob.mk ?_); first | rfl | (repeat (first | exact grd_p H | (have hp := grd_p H; exact hp) | replace H := grd_k H | replace H := out_step H (by assumption) | (replace H := bind_some H; obtain ⟨_, _, H⟩ := H))))
        | ((with_reducible refine fin_mk ?_); (repeat (first | replace H := grd_k H | replace H := out_step H (by assumption))); have H := Option.some.inj H; subst H))
def G52 : Env := G51.add 51 [] laws_eqLogRecord.S
theorem G52_ok : EnvOk Tryd.prog G52 := G51_ok.add ent_51 fun ar h r h1 ⟨a0, a1, y, hy, e1, e2, e3, e4⟩ => by
  subst e3 e4; exact (laws_eqLogRecord.spec a0 a1 y hy).le e1 e2
attribute [local irreducible] laws_eqLogRecord

noncomputable def laws_eqLogRecordS_loop1 (a0 : (List LogRecord)) (a1 : (List LogRecord)) (v4 : Int) : Option (Lp (Int) ((Unit) ⊕ (Unit))) :=
  (cond (decide (v4 < (a0.length : Int))) (grd (0 ≤ v4 ∧ v4 < (a0.length : Int)) (grd (0 ≤ v4 ∧ v4 < (a1.length : Int)) ((laws_eqLogRecord ((a0.getD v4.toNat d_LogRecord).1, (a0.getD v4.toNat d_LogRecord).2.1, ()) ((a1.getD v4.toNat d_LogRecord).1, (a1.getD v4.toNat d_LogRecord).2.1, ())).bind fun y5 => (cond (!y5) ((some (.out (Sum.inl ())))) (some (.go (w64 (v4 + (1 : Int))))))))) ((some (.out (Sum.inr ())))))
noncomputable def laws_eqLogRecordS (a0 : (List LogRecord)) (a1 : (List LogRecord)) : Option (Bool) :=
  (cond (!decide ((a0.length : Int) = (a1.length : Int))) ((some false)) ((iter (fun s => laws_eqLogRecordS_loop1 a0 a1 s) (0 : Int)).bind (Sum.elim (fun _ => (some false)) (fun _ => (some true)))))
def laws_eqLogRecordS.res (_ : (List LogRecord)) (_ : (List LogRecord)) (y : Bool) : AV := (.bl y)
def laws_eqLogRecordS.out (_ : (List LogRecord)) (_ : (List LogRecord)) (_ : Bool) : List (Option LB) := []
def laws_eqLogRecordS.S (ar : List AV) (h : List (Option LB)) (r : AV) (h1 : List (Option LB)) : Prop := ∃ a0 a1 y, laws_eqLogRecordS a0 a1 = some y ∧ leL ar [(.tree ty_LogRecord a0), (.tree ty_LogRecord a1)] ∧ leH h [] ∧ r = laws_eqLogRecordS.res a0 a1 y ∧ h1 = laws_eqLogRecordS.out a0 a1 y
theorem laws_eqLogRecordS.call {ar : List AV} {h : List (Option LB)} {a0 : (List LogRecord)} {a1 : (List LogRecord)} {y : Bool} (H : laws_eqLogRecordS a0 a1 = some y) (h0 : leLk ar [(.tree ty_LogRecord a0), (.tree ty_LogRecord a1)] (leHk h [])) : laws_eqLogRecordS.S ar h (laws_eqLogRecordS.res a0 a1 y) (laws_eqLogRecordS.out a0 a1 y) := ⟨a0, a1, y, H, (args_ok h0).1, (args_ok h0).2, rfl, rfl⟩
set_option maxHeartbeats 100000000 in
set_option maxRecDepth 100000 in
theorem laws_eqLogRecordS.spec (a0 : (List LogRecord)) (a1 : (List LogRecord)) (y : Bool) (H : laws_eqLogRecordS a0 a1 = some y) : Spec Tryd.prog 32 [(.tree ty_LogRecord a0), (.tree ty_LogRecord a1)] [] (laws_eqLogRecordS.res a0 a1 y) (laws_eqLogRecordS.out a0 a1 y) := by
  refine spec_intro (G52_ok.at tok []) (ct := [(7, some [0, 1, 5, 26])]) Tryd.func32 rfl (by kernel_rfl) (by kernel_rfl) rfl ?_
  repeat' first
    | ((with_reducible refine eqg ?_); exact rfl)
    | ((with_reducible refine KOb.mk ?_); kernel_rfl)
    | ((with_reducible intro h); (repeat (first | replace H := grd_k H | replace H := out_step H (by assumption))); first | replace H := cond_t h H | replace H := cond_f h H | exact absurd h (by decide) | skip)
    | ((with_reducible refine Ob.mk ?_); first | rfl | (repeat (first | exact grd_p H | (have hp := grd_p H; exact hp) | replace H := grd_k H | replace H := out_step H (by assumption) | (replace H := bind_some H; obtain ⟨_, _, H⟩ := H))))
    | (with_reducible exact True.intro)
    | constructor
    | ((conv => whnf); first
        | ((with_reducible refine Ob.mk ?_); first | rfl | (repeat (first | exact grd_p H | (have hp := grd_p H; exact hp) | replace H := grd_k H | replace H := out_step H (by assumption) | (replace H := bind_some H; obtain ⟨_, _, H⟩ := H))))
        | ((with_reducible refine CallW.mk ?_); (repeat (first | replace H := grd_k H | replace H := out_step H (by assumption))); replace H := bind_some H; obtain ⟨y, hy, H⟩ := H; first | ((with_reducible have hz : laws_eqLogRecord _ _ = some y := hy); clear hz; refine Exists.intro _ (Exists.intro _ ⟨laws_eqLogRecord.call hy ?_, rfl, rfl, ?_⟩)))
        | ((repeat (first | replace H := grd_k H | replace H := out_step H (by assumption))); refine loop_iter (G52_ok.at tok []) (ct := [(7, some [0, 1, 5, 26])]) (F := (fun s1 : Int => ⟨sl [(0, (.tree ty_LogRecord a0)), (1, (.tree ty_LogRecord a1)), (5, (.v (.int .i64 s1)))], []⟩)) (step := (fun s : Int => laws_eqLogRecordS_loop1 _ _ s)) _ H (by kernel_rfl) (sub_auto ?_) ?_; rotate_left; (intro s1 r v hr H); rotate_right)
        | ((repeat (first | replace H := grd_k H | replace H := out_step H (by assumption))); refine again_step H (by assumption) (sub_auto ?_))
        | ((with_reducible refine fin_mk ?_); (repeat (first | replace H := grd_k H | replace H := out_step H (by assumption))); have H := Option.some.inj H; subst H))
def G53 : Env := G52.add 32 [] laws_eqLogRecordS.S
theorem G53_ok : EnvOk Tryd.prog G53 := G52_ok.add ent_32 fun ar h r h1 ⟨a0, a1, y, hy, e1, e2, e3, e4⟩ => by
  subst e3 e4; exact (laws_eqLogRecordS.spec a0 a1 y hy).le e1 e2
attribute [local irreducible] laws_eqLogRecordS

noncomputable def laws_markText_loop1  (v3 : Int) (v4 : ByteArray) : Option (Lp (Int × ByteArray) ((ByteArray))) :=
  (cond (decide ((0 : Int) < v3)) (grd ((10 : Int) ≠ 0) (grd ((strOfN [(wu8 (w64 ((48 : Int) + (Int.tmod v3 (10 : Int)))))]).size + v4.size ≤ 9223372036854775807) (grd ((10 : Int) ≠ 0) (some (.go ((w64 (Int.tdiv v3 (10 : Int))), ((strOfN [(wu8 (w64 ((48 : Int) + (Int.tmod v3 (10 : Int)))))]) ++ v4))))))) ((some (.out v4))))
noncomputable def laws_markText (a0 : Int) : Option (ByteArray) :=
  (cond (decide (a0 ≤ (0 : Int))) ((some (ByteArray.mk #[109, 48]))) ((iter (fun s => laws_markText_loop1 s.1 s.2) (a0, (ByteArray.mk #[]))).bind (fun r5 => (grd ((ByteArray.mk #[109]).size + r5.size ≤ 9223372036854775807) ((some ((ByteArray.mk #[109]) ++ r5)))))))
def laws_markText.res (_ : Int) (y : ByteArray) : AV := (.v (.string y))
def laws_markText.out (_ : Int) (_ : ByteArray) : List (Option LB) := []
def laws_markText.S (ar : List AV) (h : List (Option LB)) (r : AV) (h1 : List (Option LB)) : Prop := ∃ a0 y, laws_markText a0 = some y ∧ leL ar [(.v (.int .i64 a0))] ∧ leH h [] ∧ r = laws_markText.res a0 y ∧ h1 = laws_markText.out a0 y
theorem laws_markText.call {ar : List AV} {h : List (Option LB)} {a0 : Int} {y : ByteArray} (H : laws_markText a0 = some y) (h0 : leLk ar [(.v (.int .i64 a0))] (leHk h [])) : laws_markText.S ar h (laws_markText.res a0 y) (laws_markText.out a0 y) := ⟨a0, y, H, (args_ok h0).1, (args_ok h0).2, rfl, rfl⟩
set_option maxHeartbeats 100000000 in
set_option maxRecDepth 100000 in
theorem laws_markText.spec (a0 : Int) (y : ByteArray) (H : laws_markText a0 = some y) : Spec Tryd.prog 52 [(.v (.int .i64 a0))] [] (laws_markText.res a0 y) (laws_markText.out a0 y) := by
  refine spec_intro (G53_ok.at tok []) (ct := []) Tryd.func52 rfl (by kernel_rfl) (by kernel_rfl) rfl ?_
  repeat' first
    | ((with_reducible refine eqg ?_); exact rfl)
    | ((with_reducible refine KOb.mk ?_); kernel_rfl)
    | ((with_reducible intro h); (repeat (first | replace H := grd_k H | replace H := out_step H (by assumption))); first | replace H := cond_t h H | replace H := cond_f h H | exact absurd h (by decide) | skip)
    | ((with_reducible refine Ob.mk ?_); first | rfl | (repeat (first | exact grd_p H | (have hp := grd_p H; exact hp) | replace H := grd_k H | replace H := out_step H (by assumption) | (replace H := bind_some H; obtain ⟨_, _, H⟩ := H))))
    | (with_reducible exact True.intro)
    | constructor
    | ((conv => whnf); first
        | ((with_reducible refine Ob.mk ?_); first | rfl | (repeat (first | exact grd_p H | (have hp := grd_p H; exact hp) | replace H := grd_k H | replace H := out_step H (by assumption) | (replace H := bind_some H; obtain ⟨_, _, H⟩ := H))))
        | ((repeat (first | replace H := grd_k H | replace H := out_step H (by assumption))); refine loop_iter (G53_ok.at tok []) (ct := []) (F := (fun s1 : Int × ByteArray => ⟨sl [(0, (.v (.int .i64 s1.1))), (3, (.v (.string s1.2)))], []⟩)) (step := (fun s : Int × ByteArray => laws_markText_loop1 s.1 s.2)) _ H (by kernel_rfl) (sub_auto ?_) ?_; rotate_left; (intro s1 r v hr H); rotate_right)
        | ((repeat (first | replace H := grd_k H | replace H := out_step H (by assumption))); refine again_step H (by assumption) (sub_auto ?_))
        | ((with_reducible refine fin_mk ?_); (repeat (first | replace H := grd_k H | replace H := out_step H (by assumption))); have H := Option.some.inj H; subst H))
def G54 : Env := G53.add 52 [] laws_markText.S
theorem G54_ok : EnvOk Tryd.prog G54 := G53_ok.add ent_52 fun ar h r h1 ⟨a0, y, hy, e1, e2, e3, e4⟩ => by
  subst e3 e4; exact (laws_markText.spec a0 y hy).le e1 e2
attribute [local irreducible] laws_markText

end Go.Proofs.YtpfdhaldjeedfaaDoor
