/-
  Contracts, printed by a program.
-/
import Derived.Test.YtpfdhaldjeedfaaDoorC206
namespace Go.Proofs.YtpfdhaldjeedfaaDoor
open Go.RowKit
attribute [local irreducible] Ob loopwp Sub Spec Fin Again CallW CutC KOb iter joinx outm

attribute [local irreducible] laws_szLogRecord laws_toLogRecord spec_l1In spec_l27Plain spec_l1Stands spec_l27Good spec_l1Num spec_l1Num_f spec_l1Sum spec_l1Seal spec_l27Line spec_EncodeRecord impl_within strings_ContainsAny impl_isPlain impl_IsValidRecord strconv_Itoa strings_Contains impl_checksum impl_AppendChecksum impl_encodeRecord impl_EncodeRecord laws_FnExactEncodeRecord spec_l1Split spec_l27Read spec_l27Open spec_RecoverLog strings_Cut impl_VerifyChecksum internal_stringslite_HasPrefix internal_stringslite_CutPrefix strings_CutPrefix impl_decodeRecord impl_readRecords impl_RecoverLog laws_eqLog laws_FnExactRecoverLog

noncomputable def laws_szLog (a0 : Log) (a1 : Int) : Option (Int) :=
  (cond (decide ((w64 (a1 - (a0.1.size : Int))) < (0 : Int))) ((some ((-1) : Int))) (cond (decide ((w64 ((w64 (a1 - (a0.1.size : Int))) - (a0.2.1.size : Int))) < (0 : Int))) ((some ((-1) : Int))) ((some (w64 ((w64 (a1 - (a0.1.size : Int))) - (a0.2.1.size : Int)))))))
def laws_szLog.res (_ : Log) (_ : Int) (y : Int) : AV := (.v (.int .i64 y))
def laws_szLog.out (_ : Log) (_ : Int) (_ : Int) : List (Option LB) := []
def laws_szLog.S (ar : List AV) (h : List (Option LB)) (r : AV) (h1 : List (Option LB)) : Prop := ∃ a0 a1 y, laws_szLog a0 a1 = some y ∧ leL ar [(.agg [(.v (.string a0.1)), (.v (.string a0.2.1)), (.v (.int .i64 a0.2.2.1))]), (.v (.int .i64 a1))] ∧ leH h [] ∧ r = laws_szLog.res a0 a1 y ∧ h1 = laws_szLog.out a0 a1 y
theorem laws_szLog.call {ar : List AV} {h : List (Option LB)} {a0 : Log} {a1 : Int} {y : Int} (H : laws_szLog a0 a1 = some y) (h0 : leLk ar [(.agg [(.v (.string a0.1)), (.v (.string a0.2.1)), (.v (.int .i64 a0.2.2.1))]), (.v (.int .i64 a1))] (leHk h [])) : laws_szLog.S ar h (laws_szLog.res a0 a1 y) (laws_szLog.out a0 a1 y) := ⟨a0, a1, y, H, (args_ok h0).1, (args_ok h0).2, rfl, rfl⟩
set_option maxHeartbeats 100000000 in
set_option maxRecDepth 100000 in
theorem laws_szLog.spec (a0 : Log) (a1 : Int) (y : Int) (H : laws_szLog a0 a1 = some y) : Spec Tryd.prog 20 [(.agg [(.v (.string a0.1)), (.v (.string a0.2.1)), (.v (.int .i64 a0.2.2.1))]), (.v (.int .i64 a1))] [] (laws_szLog.res a0 a1 y) (laws_szLog.out a0 a1 y) := by
  refine spec_intro (G36_ok.at tok []) (ct := [(5, some [1])]) Tryd.func20 rfl (by kernel_rfl) (by kernel_rfl) rfl ?_
  repeat' first
    | ((with_reducible refine eqg ?_); exact rfl)
    | ((with_reducible refine KOb.mk ?_); kernel_rfl)
    | ((with_reducible intro h); (repeat (first | replace H := grd_k H | replace H := out_step H (by assumption))); first | replace H := cond_t h H | replace H := cond_f h H | exact absurd h (by decide) | skip)
    | ((with_reducible refine Ob.mk ?_); first | rfl | (repeat (first | exact grd_p H | (have hp := grd_p H; exact hp) | replace H := grd_k H | replace H := out_step H (by assumption) | (replace H := bind_some H; obtain ⟨_, _, H⟩ := H))))
    | (with_reducible exact True.intro)
    | constructor
    | ((conv => whnf); first
        | ((with_reducible refine Ob.mk ?_); first | rfl | (repeat (first | exact grd_p H | (have hp := grd_p H; exact hp) | replace H := grd_k H | replace H := out_step H (by assumption) | (replace H := bind_some H; obtain ⟨_, _, H⟩ := H))))
        | ((with_reducible refine fin_mk ?_); (repeat (first | replace H := grd_k H | replace H := out_step H (by assumption))); have H := Option.some.inj H; subst H))
def G37 : Env := G36.add 20 [] laws_szLog.S
theorem G37_ok : EnvOk Tryd.prog G37 := G36_ok.add ent_20 fun ar h r h1 ⟨a0, a1, y, hy, e1, e2, e3, e4⟩ => by
  subst e3 e4; exact (laws_szLog.spec a0 a1 y hy).le e1 e2
attribute [local irreducible] laws_szLog

noncomputable def laws_toLog (a0 : Log) : Option (Log) :=
  (some (a0.1, a0.2.1, a0.2.2.1, ()))
def laws_toLog.res (_ : Log) (y : Log) : AV := (.agg [(.v (.string y.1)), (.v (.string y.2.1)), (.v (.int .i64 y.2.2.1))])
def laws_toLog.out (_ : Log) (_ : Log) : List (Option LB) := []
def laws_toLog.S (ar : List AV) (h : List (Option LB)) (r : AV) (h1 : List (Option LB)) : Prop := ∃ a0 y, laws_toLog a0 = some y ∧ leL ar [(.agg [(.v (.string a0.1)), (.v (.string a0.2.1)), (.v (.int .i64 a0.2.2.1))])] ∧ leH h [] ∧ r = laws_toLog.res a0 y ∧ h1 = laws_toLog.out a0 y
theorem laws_toLog.call {ar : List AV} {h : List (Option LB)} {a0 : Log} {y : Log} (H : laws_toLog a0 = some y) (h0 : leLk ar [(.agg [(.v (.string a0.1)), (.v (.string a0.2.1)), (.v (.int .i64 a0.2.2.1))])] (leHk h [])) : laws_toLog.S ar h (laws_toLog.res a0 y) (laws_toLog.out a0 y) := ⟨a0, y, H, (args_ok h0).1, (args_ok h0).2, rfl, rfl⟩
set_option maxHeartbeats 100000000 in
set_option maxRecDepth 100000 in
theorem laws_toLog.spec (a0 : Log) (y : Log) (H : laws_toLog a0 = some y) : Spec Tryd.prog 22 [(.agg [(.v (.string a0.1)), (.v (.string a0.2.1)), (.v (.int .i64 a0.2.2.1))])] [] (laws_toLog.res a0 y) (laws_toLog.out a0 y) := by
  refine spec_intro (G37_ok.at tok []) (ct := []) Tryd.func22 rfl (by kernel_rfl) (by kernel_rfl) rfl ?_
  repeat' first
    | ((with_reducible refine eqg ?_); exact rfl)
    | ((with_reducible refine KOb.mk ?_); kernel_rfl)
    | ((with_reducible intro h); (repeat (first | replace H := grd_k H | replace H := out_step H (by assumption))); first | replace H := cond_t h H | replace H := cond_f h H | exact absurd h (by decide) | skip)
    | ((with_reducible refine Ob.mk ?_); first | rfl | (repeat (first | exact grd_p H | (have hp := grd_p H; exact hp) | replace H := grd_k H | replace H := out_step H (by assumption) | (replace H := bind_some H; obtain ⟨_, _, H⟩ := H))))
    | (with_reducible exact True.intro)
    | constructor
    | ((conv => whnf); first
        | ((with_reducible refine Ob.mk ?_); first | rfl | (repeat (first | exact grd_p H | (have hp := grd_p H; exact hp) | replace H := grd_k H | replace H := out_step H (by assumption) | (replace H := bind_some H; obtain ⟨_, _, H⟩ := H))))
        | ((with_reducible refine fin_mk ?_); (repeat (first | replace H := grd_k H | replace H := out_step H (by assumption))); have H := Option.some.inj H; subst H))
def G38 : Env := G37.add 22 [] laws_toLog.S
theorem G38_ok : EnvOk Tryd.prog G38 := G37_ok.add ent_22 fun ar h r h1 ⟨a0, y, hy, e1, e2, e3, e4⟩ => by
  subst e3 e4; exact (laws_toLog.spec a0 y hy).le e1 e2
attribute [local irreducible] laws_toLog

noncomputable def spec_l27Log (a0 : Log) : Option (Bool) :=
  (cond (decide ((30000 : Int) < (w64 ((a0.1.size : Int) + (a0.2.1.size : Int))))) ((some false)) (grd (a0.1.size + a0.2.1.size ≤ 9223372036854775807) ((spec_l27Open (a0.1 ++ a0.2.1)).bind fun y1 => ((spec_l27Open a0.1).bind fun y2 => (cond (decide (y1.2 = (w64 ((a0.1.size : Int) + (a0.2.1.size : Int))))) (cond (decide (y2.2 = (a0.1.size : Int))) ((some (decide ((y1.1.length : Int) = a0.2.2.1)))) ((some false))) ((some false)))))))
def spec_l27Log.res (_ : Log) (y : Bool) : AV := (.bl y)
def spec_l27Log.out (_ : Log) (_ : Bool) : List (Option LB) := []
def spec_l27Log.S (ar : List AV) (h : List (Option LB)) (r : AV) (h1 : List (Option LB)) : Prop := ∃ a0 y, spec_l27Log a0 = some y ∧ leL ar [(.agg [(.v (.string a0.1)), (.v (.string a0.2.1)), (.v (.int .i64 a0.2.2.1))])] ∧ leH h [] ∧ r = spec_l27Log.res a0 y ∧ h1 = spec_l27Log.out a0 y
theorem spec_l27Log.call {ar : List AV} {h : List (Option LB)} {a0 : Log} {y : Bool} (H : spec_l27Log a0 = some y) (h0 : leLk ar [(.agg [(.v (.string a0.1)), (.v (.string a0.2.1)), (.v (.int .i64 a0.2.2.1))])] (leHk h [])) : spec_l27Log.S ar h (spec_l27Log.res a0 y) (spec_l27Log.out a0 y) := ⟨a0, y, H, (args_ok h0).1, (args_ok h0).2, rfl, rfl⟩
set_option maxHeartbeats 100000000 in
set_option maxRecDepth 100000 in
theorem spec_l27Log.spec (a0 : Log) (y : Bool) (H : spec_l27Log a0 = some y) : Spec Tryd.prog 49 [(.agg [(.v (.string a0.1)), (.v (.string a0.2.1)), (.v (.int .i64 a0.2.2.1))])] [] (spec_l27Log.res a0 y) (spec_l27Log.out a0 y) := by
  refine spec_intro (G38_ok.at tok []) (ct := [(4, some [1, 3, 4, 40, 41, 42, 43, 44, 47, 48, 49, 50, 51])]) Tryd.func49 rfl (by kernel_rfl) (by kernel_rfl) rfl ?_
  repeat' first
    | ((with_reducible refine eqg ?_); exact rfl)
    | ((with_reducible refine KOb.mk ?_); kernel_rfl)
    | ((with_reducible intro h); (repeat (first | replace H := grd_k H | replace H := out_step H (by assumption))); first | replace H := cond_t h H | replace H := cond_f h H | exact absurd h (by decide) | skip)
    | ((with_reducible refine Ob.mk ?_); first | rfl | (repeat (first | exact grd_p H | (have hp := grd_p H; exact hp) | replace H := grd_k H | replace H := out_step H (by assumption) | (replace H := bind_some H; obtain ⟨_, _, H⟩ := H))))
    | (with_reducible exact True.intro)
    | constructor
    | ((conv => whnf); first
        | ((with_reducible refine Ob.mk ?_); first | rfl | (repeat (first | exact grd_p H | (have hp := grd_p H; exact hp) | replace H := grd_k H | replace H := out_step H (by assumption) | (replace H := bind_some H; obtain ⟨_, _, H⟩ := H))))
        | ((with_reducible refine CallW.mk ?_); (repeat (first | replace H := grd_k H | replace H := out_step H (by assumption))); replace H := bind_some H; obtain ⟨y, hy, H⟩ := H; first | ((with_reducible have hz : spec_l27Open _ = some y := hy); clear hz; refine Exists.intro _ (Exists.intro _ ⟨spec_l27Open.call hy ?_, rfl, rfl, ?_⟩)))
        | ((with_reducible refine fin_mk ?_); (repeat (first | replace H := grd_k H | replace H := out_step H (by assumption))); have H := Option.some.inj H; subst H))
def G39 : Env := G38.add 49 [] spec_l27Log.S
theorem G39_ok : EnvOk Tryd.prog G39 := G38_ok.add ent_49 fun ar h r h1 ⟨a0, y, hy, e1, e2, e3, e4⟩ => by
  subst e3 e4; exact (spec_l27Log.spec a0 y hy).le e1 e2
attribute [local irreducible] spec_l27Log

noncomputable def spec_IsValidLog (a0 : Log) : Option (Bool) :=
  ((spec_l27Log (a0.1, a0.2.1, a0.2.2.1, ())).bind fun y1 => (some y1))
def spec_IsValidLog.res (_ : Log) (y : Bool) : AV := (.bl y)
def spec_IsValidLog.out (_ : Log) (_ : Bool) : List (Option LB) := []
def spec_IsValidLog.S (ar : List AV) (h : List (Option LB)) (r : AV) (h1 : List (Option LB)) : Prop := ∃ a0 y, spec_IsValidLog a0 = some y ∧ leL ar [(.agg [(.v (.string a0.1)), (.v (.string a0.2.1)), (.v (.int .i64 a0.2.2.1))])] ∧ leH h [] ∧ r = spec_IsValidLog.res a0 y ∧ h1 = spec_IsValidLog.out a0 y
theorem spec_IsValidLog.call {ar : List AV} {h : List (Option LB)} {a0 : Log} {y : Bool} (H : spec_IsValidLog a0 = some y) (h0 : leLk ar [(.agg [(.v (.string a0.1)), (.v (.string a0.2.1)), (.v (.int .i64 a0.2.2.1))])] (leHk h [])) : spec_IsValidLog.S ar h (spec_IsValidLog.res a0 y) (spec_IsValidLog.out a0 y) := ⟨a0, y, H, (args_ok h0).1, (args_ok h0).2, rfl, rfl⟩
set_option maxHeartbeats 100000000 in
set_option maxRecDepth 100000 in
theorem spec_IsValidLog.spec (a0 : Log) (y : Bool) (H : spec_IsValidLog a0 = some y) : Spec Tryd.prog 21 [(.agg [(.v (.string a0.1)), (.v (.string a0.2.1)), (.v (.int .i64 a0.2.2.1))])] [] (spec_IsValidLog.res a0 y) (spec_IsValidLog.out a0 y) := by
  refine spec_intro (G39_ok.at tok []) (ct := []) Tryd.func21 rfl (by kernel_rfl) (by kernel_rfl) rfl ?_
  repeat' first
    | ((with_reducible refine eqg ?_); exact rfl)
    | ((with_reducible refine KOb.mk ?_); kernel_rfl)
    | ((with_reducible intro h); (repeat (first | replace H := grd_k H | replace H := out_step H (by assumption))); first | replace H := cond_t h H | replace H := cond_f h H | exact absurd h (by decide) | skip)
    | ((with_reducible refine Ob.mk ?_); first | rfl | (repeat (first | exact grd_p H | (have hp := grd_p H; exact hp) | replace H := grd_k H | replace H := out_step H (by assumption) | (replace H := bind_some H; obtain ⟨_, _, H⟩ := H))))
    | (with_reducible exact True.intro)
    | constructor
    | ((conv => whnf); first
        | ((with_reducible refine Ob.mk ?_); first | rfl | (repeat (first | exact grd_p H | (have hp := grd_p H; exact hp) | replace H := grd_k H | replace H := out_step H (by assumption) | (replace H := bind_some H; obtain ⟨_, _, H⟩ := H))))
        | ((with_reducible refine CallW.mk ?_); (repeat (first | replace H := grd_k H | replace H := out_step H (by assumption))); replace H := bind_some H; obtain ⟨y, hy, H⟩ := H; first | ((with_reducible have hz : spec_l27Log _ = some y := hy); clear hz; refine Exists.intro _ (Exists.intro _ ⟨spec_l27Log.call hy ?_, rfl, rfl, ?_⟩)))
        | ((with_reducible refine fin_mk ?_); (repeat (first | replace H := grd_k H | replace H := out_step H (by assumption))); have H := Option.some.inj H; subst H))
def G40 : Env := G39.add 21 [] spec_IsValidLog.S
theorem G40_ok : EnvOk Tryd.prog G40 := G39_ok.add ent_21 fun ar h r h1 ⟨a0, y, hy, e1, e2, e3, e4⟩ => by
  subst e3 e4; exact (spec_IsValidLog.spec a0 y hy).le e1 e2
attribute [local irreducible] spec_IsValidLog

noncomputable def impl_Log_records_loop1 (a0 : Log) (v17 : Bool) (v18 : Bool) (v19 : Int) (v20 : Int) (v21 : (List LogRecord)) (v22 : (List Int)) : Option (Lp (Bool × Bool × Int × Int × (List LogRecord) × (List Int)) ((Bool × Bool × (List LogRecord)))) :=
  (cond (decide (v20 < v19)) (grd (0 ≤ v20 ∧ v20 < (v22.length : Int)) (cond v18 (some (.go (v17, true, v19, (w64 (v20 + (1 : Int))), v21, v22))) (some (.go (v17, (decide ((v22.getD v20.toNat 0) = (a0.1.size : Int))), v19, (w64 (v20 + (1 : Int))), v21, v22))))) ((some (.out (v17, v18, v21)))))
noncomputable def impl_Log_records (a0 : Log) : Option ((List LogRecord) × Bool) :=
  (grd (a0.1.size + a0.2.1.size ≤ 9223372036854775807) ((impl_readRecords (a0.1 ++ a0.2.1)).bind fun y1 => ((grd (0 ≤ (w64 ((y1.2.length : Int) - (1 : Int))) ∧ (w64 ((y1.2.length : Int) - (1 : Int))) < (y1.2.length : Int)) (cond (decide ((y1.2.getD ((w64 ((y1.2.length : Int) - (1 : Int))).toNat) 0) = ((a0.1 ++ a0.2.1).size : Int))) ((some ((decide (a0.2.2.1 = (y1.1.length : Int))), y1.1, y1.2))) ((some (false, y1.1, y1.2))))).bind fun z2 => ((iter (fun s => impl_Log_records_loop1 a0 s.1 s.2.1 s.2.2.1 s.2.2.2.1 s.2.2.2.2.1 s.2.2.2.2.2) (z2.1, false, (z2.2.2.length : Int), (0 : Int), z2.2.1, z2.2.2)).bind (fun r23 => (cond r23.1 ((some (r23.2.2, r23.2.1))) ((some (r23.2.2, false)))))))))
def impl_Log_records.res (_ : Log) (y : (List LogRecord) × Bool) : AV := (.tup [(.own 0), (.bl y.2)])
def impl_Log_records.out (_ : Log) (y : (List LogRecord) × Bool) : List (Option LB) := [some (.arr 27 ty_LogRecord y.1)]
def impl_Log_records.S (ar : List AV) (h : List (Option LB)) (r : AV) (h1 : List (Option LB)) : Prop := ∃ a0 y, impl_Log_records a0 = some y ∧ leL ar [(.agg [(.v (.string a0.1)), (.v (.string a0.2.1)), (.v (.int .i64 a0.2.2.1))])] ∧ leH h [] ∧ r = impl_Log_records.res a0 y ∧ h1 = impl_Log_records.out a0 y
theorem impl_Log_records.call {ar : List AV} {h : List (Option LB)} {a0 : Log} {y : (List LogRecord) × Bool} (H : impl_Log_records a0 = some y) (h0 : leLk ar [(.agg [(.v (.string a0.1)), (.v (.string a0.2.1)), (.v (.int .i64 a0.2.2.1))])] (leHk h [])) : impl_Log_records.S ar h (impl_Log_records.res a0 y) (impl_Log_records.out a0 y) := ⟨a0, y, H, (args_ok h0).1, (args_ok h0).2, rfl, rfl⟩
set_option maxHeartbeats 100000000 in
set_option maxRecDepth 100000 in
theorem impl_Log_records.spec (a0 : Log) (y : (List LogRecord) × Bool) (H : impl_Log_records a0 = some y) : Spec Tryd.prog 50 [(.agg [(.v (.string a0.1)), (.v (.string a0.2.1)), (.v (.int .i64 a0.2.2.1))])] [] (impl_Log_records.res a0 y) (impl_Log_records.out a0 y) := by
  refine spec_intro (G40_ok.at tok []) (ct := [(4, none), (3, some [1, 4, 5, 6, 31, 32, 33, 34, 35, 45, 46, 47, 48, 49, 55])]) Tryd.func50 rfl (by kernel_rfl) (by kernel_rfl) rfl ?_
  repeat' first
    | ((with_reducible refine eqg ?_); exact rfl)
    | ((with_reducible refine KOb.mk ?_); kernel_rfl)
    | ((with_reducible intro h); (repeat (first | replace H := grd_k H | replace H := out_step H (by assumption))); first | replace H := cond_t h H | replace H := cond_f h H | exact absurd h (by decide) | skip)
    | ((with_reducible refine Ob.mk ?_); first | rfl | (repeat (first | exact grd_p H | (have hp := grd_p H; exact hp) | replace H := grd_k H | replace H := out_step H (by assumption) | (replace H := bind_some H; obtain ⟨_, _, H⟩ := H))))
    | (with_reducible exact True.intro)
    | constructor
    | ((conv => whnf); first
        | ((with_reducible refine Ob.mk ?_); first | rfl | (repeat (first | exact grd_p H | (have hp := grd_p H; exact hp) | replace H := grd_k H | replace H := out_step H (by assumption) | (replace H := bind_some H; obtain ⟨_, _, H⟩ := H))))
        | ((with_reducible refine CallW.mk ?_); (repeat (first | replace H := grd_k H | replace H := out_step H (by assumption))); replace H := bind_some H; obtain ⟨y, hy, H⟩ := H; first | ((with_reducible have hz : impl_readRecords _ = some y := hy); clear hz; refine Exists.intro _ (Exists.intro _ ⟨impl_readRecords.call hy ?_, rfl, rfl, ?_⟩)))
        | ((repeat (first | replace H := grd_k H | replace H := out_step H (by assumption))); refine loop_iter (G40_ok.at tok []) (ct := [(4, none), (3, some [1, 4, 5, 6, 31, 32, 33, 34, 35, 45, 46, 47, 48, 49, 55])]) (F := (fun s1 : Bool × Bool × Int × Int × (List LogRecord) × (List Int) => ⟨sl [(1, (.loc 0 0 0)), (5, (.own 1)), (7, (.bl s1.1)), (8, (.bl s1.2.1)), (37, (.own 2)), (38, (.v (.int .i64 s1.2.2.1))), (39, (.v (.int .i64 s1.2.2.2.1)))], [some (.box 31 [(.v (.string a0.1)), (.v (.string a0.2.1)), (.v (.int .i64 a0.2.2.1))]), some (.arr 27 ty_LogRecord s1.2.2.2.2.1), some (.arr 3 (.int .i64) s1.2.2.2.2.2)]⟩)) (step := (fun s : Bool × Bool × Int × Int × (List LogRecord) × (List Int) => impl_Log_records_loop1 _ s.1 s.2.1 s.2.2.1 s.2.2.2.1 s.2.2.2.2.1 s.2.2.2.2.2)) _ H (by kernel_rfl) (sub_auto ?_) ?_; rotate_left; (intro s1 r v hr H); rotate_right)
        | ((with_reducible refine cutAt (id := 4) ?_); (repeat (first | replace H := grd_k H | replace H := out_step H (by assumption))); first | (replace H := bind_some H; obtain ⟨z, hz, H⟩ := H; refine CutC.mk (id := 4) ⟨sl [(1, (.loc 0 0 0)), (5, (.own 1)), (6, (.own 2)), (7, (.bl z.1))], [some (.box 31 [(.v (.string a0.1)), (.v (.string a0.2.1)), (.v (.int .i64 a0.2.2.1))]), some (.arr 27 ty_LogRecord z.2.1), some (.arr 3 (.int .i64) z.2.2)]⟩ ?_ ?_; (replace H := hz)))
        | ((repeat (first | replace H := grd_k H | replace H := out_step H (by assumption))); have H := Option.some.inj H; subst H; with_reducible refine sub_auto ?_)
        | ((repeat (first | replace H := grd_k H | replace H := out_step H (by assumption))); refine again_step H (by assumption) (sub_auto ?_))
        | ((with_reducible refine fin_mk ?_); (repeat (first | replace H := grd_k H | replace H := out_step H (by assumption))); have H := Option.some.inj H; subst H))
def G41 : Env := G40.add 50 [] impl_Log_records.S
theorem G41_ok : EnvOk Tryd.prog G41 := G40_ok.add ent_50 fun ar h r h1 ⟨a0, y, hy, e1, e2, e3, e4⟩ => by
  subst e3 e4; exact (impl_Log_records.spec a0 y hy).le e1 e2
attribute [local irreducible] impl_Log_records

noncomputable def impl_IsValidLog (a0 : Log) : Option (Bool) :=
  ((impl_Log_records (a0.1, a0.2.1, a0.2.2.1, ())).bind fun y1 => (some y1.2))
def impl_IsValidLog.res (_ : Log) (y : Bool) : AV := (.bl y)
def impl_IsValidLog.out (_ : Log) (_ : Bool) : List (Option LB) := []
def impl_IsValidLog.S (ar : List AV) (h : List (Option LB)) (r : AV) (h1 : List (Option LB)) : Prop := ∃ a0 y, impl_IsValidLog a0 = some y ∧ leL ar [(.agg [(.v (.string a0.1)), (.v (.string a0.2.1)), (.v (.int .i64 a0.2.2.1))])] ∧ leH h [] ∧ r = impl_IsValidLog.res a0 y ∧ h1 = impl_IsValidLog.out a0 y
theorem impl_IsValidLog.call {ar : List AV} {h : List (Option LB)} {a0 : Log} {y : Bool} (H : impl_IsValidLog a0 = some y) (h0 : leLk ar [(.agg [(.v (.string a0.1)), (.v (.string a0.2.1)), (.v (.int .i64 a0.2.2.1))])] (leHk h [])) : impl_IsValidLog.S ar h (impl_IsValidLog.res a0 y) (impl_IsValidLog.out a0 y) := ⟨a0, y, H, (args_ok h0).1, (args_ok h0).2, rfl, rfl⟩
set_option maxHeartbeats 100000000 in
set_option maxRecDepth 100000 in
theorem impl_IsValidLog.spec (a0 : Log) (y : Bool) (H : impl_IsValidLog a0 = some y) : Spec Tryd.prog 23 [(.agg [(.v (.string a0.1)), (.v (.string a0.2.1)), (.v (.int .i64 a0.2.2.1))])] [] (impl_IsValidLog.res a0 y) (impl_IsValidLog.out a0 y) := by
  refine spec_intro (G41_ok.at tok []) (ct := []) Tryd.func23 rfl (by kernel_rfl) (by kernel_rfl) rfl ?_
  repeat' first
    | ((with_reducible refine eqg ?_); exact rfl)
    | ((with_reducible refine KOb.mk ?_); kernel_rfl)
    | ((with_reducible intro h); (repeat (first | replace H := grd_k H | replace H := out_step H (by assumption))); first | replace H := cond_t h H | replace H := cond_f h H | exact absurd h (by decide) | skip)
    | ((with_reducible refine Ob.mk ?_); first | rfl | (repeat (first | exact grd_p H | (have hp := grd_p H; exact hp) | replace H := grd_k H | replace H := out_step H (by assumption) | (replace H := bind_some H; obtain ⟨_, _, H⟩ := H))))
    | (with_reducible exact True.intro)
    | constructor
    | ((conv => whnf); first
        | ((with_reducible refine Ob.mk ?_); first | rfl | (repeat (first | exact grd_p H | (have hp := grd_p H; exact hp) | replace H := grd_k H | replace H := out_step H (by assumption) | (replace H := bind_some H; obtain ⟨_, _, H⟩ := H))))
        | ((with_reducible refine CallW.mk ?_); (repeat (first | replace H := grd_k H | replace H := out_step H (by assumption))); replace H := bind_some H; obtain ⟨y, hy, H⟩ := H; first | ((with_reducible have hz : impl_Log_records _ = some y := hy); clear hz; refine Exists.intro _ (Exists.intro _ ⟨impl_Log_records.call hy ?_, rfl, rfl, ?_⟩)))
        | ((with_reducible refine fin_mk ?_); (repeat (first | replace H := grd_k H | replace H := out_step H (by assumption))); have H := Option.some.inj H; subst H))
def G42 : Env := G41.add 23 [] impl_IsValidLog.S
theorem G42_ok : EnvOk Tryd.prog G42 := G41_ok.add ent_23 fun ar h r h1 ⟨a0, y, hy, e1, e2, e3, e4⟩ => by
  subst e3 e4; exact (impl_IsValidLog.spec a0 y hy).le e1 e2
attribute [local irreducible] impl_IsValidLog

end Go.Proofs.YtpfdhaldjeedfaaDoor
