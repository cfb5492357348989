/-
  Contracts, printed by a program.
-/
import Derived.Test.YtpfdhaldjeedfaaDoorC205
namespace Go.Proofs.YtpfdhaldjeedfaaDoor
open Go.RowKit
attribute [local irreducible] Ob loopwp Sub Spec Fin Again CallW CutC KOb iter joinx outm

attribute [local irreducible] laws_szLogRecord laws_toLogRecord spec_l1In spec_l27Plain spec_l1Stands spec_l27Good spec_l1Num spec_l1Num_f spec_l1Sum spec_l1Seal spec_l27Line spec_EncodeRecord impl_within strings_ContainsAny impl_isPlain impl_IsValidRecord strconv_Itoa strings_Contains impl_checksum impl_AppendChecksum impl_encodeRecord impl_EncodeRecord laws_FnExactEncodeRecord spec_l1Split spec_l27Read spec_l27Open spec_RecoverLog strings_Cut impl_VerifyChecksum internal_stringslite_HasPrefix internal_stringslite_CutPrefix

noncomputable def strings_CutPrefix (a0 : ByteArray) (a1 : ByteArray) : Option (ByteArray × Bool) :=
  ((internal_stringslite_CutPrefix a0 a1).bind fun y1 => (some (y1.1, y1.2)))
def strings_CutPrefix.res (_ : ByteArray) (_ : ByteArray) (y : ByteArray × Bool) : AV := (.tup [(.v (.string y.1)), (.bl y.2)])
def strings_CutPrefix.out (_ : ByteArray) (_ : ByteArray) (_ : ByteArray × Bool) : List (Option LB) := []
def strings_CutPrefix.S (ar : List AV) (h : List (Option LB)) (r : AV) (h1 : List (Option LB)) : Prop := ∃ a0 a1 y, strings_CutPrefix a0 a1 = some y ∧ leL ar [(.v (.string a0)), (.v (.string a1))] ∧ leH h [] ∧ r = strings_CutPrefix.res a0 a1 y ∧ h1 = strings_CutPrefix.out a0 a1 y
theorem strings_CutPrefix.call {ar : List AV} {h : List (Option LB)} {a0 : ByteArray} {a1 : ByteArray} {y : ByteArray × Bool} (H : strings_CutPrefix a0 a1 = some y) (h0 : leLk ar [(.v (.string a0)), (.v (.string a1))] (leHk h [])) : strings_CutPrefix.S ar h (strings_CutPrefix.res a0 a1 y) (strings_CutPrefix.out a0 a1 y) := ⟨a0, a1, y, H, (args_ok h0).1, (args_ok h0).2, rfl, rfl⟩
set_option maxHeartbeats 100000000 in
set_option maxRecDepth 100000 in
theorem strings_CutPrefix.spec (a0 : ByteArray) (a1 : ByteArray) (y : ByteArray × Bool) (H : strings_CutPrefix a0 a1 = some y) : Spec Tryd.prog 80 [(.v (.string a0)), (.v (.string a1))] [] (strings_CutPrefix.res a0 a1 y) (strings_CutPrefix.out a0 a1 y) := by
  refine spec_intro (G30_ok.at tok []) (ct := []) Tryd.func80 rfl (by kernel_rfl) (by kernel_rfl) rfl ?_
  repeat' first
    | ((with_reducible refine eqg ?_); exact rfl)
    | ((with_reducible refine KOb.mk ?_); kernel_rfl)
    | ((with_reducible intro h); (repeat (first | replace H := grd_k H | replace H := out_step H (by assumption))); first | replace H := cond_t h H | replace H := cond_f h H | exact absurd h (by decide) | skip)
    | ((with_reducible refine Ob.mk ?_); first | rfl | (repeat (first | exact grd_p H | (have hp := grd_p H; exact hp) | replace H := grd_k H | replace H := out_step H (by assumption) | (replace H := bind_some H; obtain ⟨_, _, H⟩ := H))))
    | (with_reducible exact True.intro)
    | constructor
    | ((conv => whnf); first
        | ((with_reducible refine Ob.mk ?_); first | rfl | (repeat (first | exact grd_p H | (have hp := grd_p H; exact hp) | replace H := grd_k H | replace H := out_step H (by assumption) | (replace H := bind_some H; obtain ⟨_, _, H⟩ := H))))
        | ((with_reducible refine CallW.mk ?_); (repeat (first | replace H := grd_k H | replace H := out_step H (by assumption))); replace H := bind_some H; obtain ⟨y, hy, H⟩ := H; first | ((with_reducible have hz : internal_stringslite_CutPrefix _ _ = some y := hy); clear hz; refine Exists.intro _ (Exists.intro _ ⟨internal_stringslite_CutPrefix.call hy ?_, rfl, rfl, ?_⟩)))
        | ((with_reducible refine fin_mk ?_); (repeat (first | replace H := grd_k H | replace H := out_step H (by assumption))); have H := Option.some.inj H; subst H))
def G31 : Env := G30.add 80 [] strings_CutPrefix.S
theorem G31_ok : EnvOk Tryd.prog G31 := G30_ok.add ent_80 fun ar h r h1 ⟨a0, a1, y, hy, e1, e2, e3, e4⟩ => by
  subst e3 e4; exact (strings_CutPrefix.spec a0 a1 y hy).le e1 e2
attribute [local irreducible] strings_CutPrefix

noncomputable def impl_decodeRecord (a0 : Int) (a1 : ByteArray) : Option (LogRecord × Bool) :=
  ((impl_VerifyChecksum a1).bind fun y1 => ((strconv_Itoa a0).bind fun y2 => (grd (y2.size + (ByteArray.mk #[32]).size ≤ 9223372036854775807) ((strings_CutPrefix y1.1 (y2 ++ (ByteArray.mk #[32]))).bind fun y3 => ((strings_Cut y3.1 (ByteArray.mk #[64])).bind fun y4 => (cond y1.2 (cond y3.2 (cond y4.2.2 ((impl_IsValidRecord (y4.1, y4.2.1, ())).bind fun y5 => (some ((y4.1, y4.2.1, ()), y5))) ((some ((y4.1, y4.2.1, ()), false)))) ((some ((y4.1, y4.2.1, ()), false)))) ((some ((y4.1, y4.2.1, ()), false)))))))))
def impl_decodeRecord.res (_ : Int) (_ : ByteArray) (y : LogRecord × Bool) : AV := (.tup [(.agg [(.v (.string y.1.1)), (.v (.string y.1.2.1))]), (.bl y.2)])
def impl_decodeRecord.out (_ : Int) (_ : ByteArray) (_ : LogRecord × Bool) : List (Option LB) := []
def impl_decodeRecord.S (ar : List AV) (h : List (Option LB)) (r : AV) (h1 : List (Option LB)) : Prop := ∃ a0 a1 y, impl_decodeRecord a0 a1 = some y ∧ leL ar [(.v (.int .i64 a0)), (.v (.string a1))] ∧ leH h [] ∧ r = impl_decodeRecord.res a0 a1 y ∧ h1 = impl_decodeRecord.out a0 a1 y
theorem impl_decodeRecord.call {ar : List AV} {h : List (Option LB)} {a0 : Int} {a1 : ByteArray} {y : LogRecord × Bool} (H : impl_decodeRecord a0 a1 = some y) (h0 : leLk ar [(.v (.int .i64 a0)), (.v (.string a1))] (leHk h [])) : impl_decodeRecord.S ar h (impl_decodeRecord.res a0 a1 y) (impl_decodeRecord.out a0 a1 y) := ⟨a0, a1, y, H, (args_ok h0).1, (args_ok h0).2, rfl, rfl⟩
set_option maxHeartbeats 100000000 in
set_option maxRecDepth 100000 in
theorem impl_decodeRecord.spec (a0 : Int) (a1 : ByteArray) (y : LogRecord × Bool) (H : impl_decodeRecord a0 a1 = some y) : Spec Tryd.prog 70 [(.v (.int .i64 a0)), (.v (.string a1))] [] (impl_decodeRecord.res a0 a1 y) (impl_decodeRecord.out a0 a1 y) := by
  refine spec_intro (G31_ok.at tok []) (ct := [(3, some [4, 7, 8, 9, 39, 42, 45, 46])]) Tryd.func70 rfl (by kernel_rfl) (by kernel_rfl) rfl ?_
  repeat' first
    | ((with_reducible refine eqg ?_); exact rfl)
    | ((with_reducible refine KOb.mk ?_); kernel_rfl)
    | ((with_reducible intro h); (repeat (first | replace H := grd_k H | replace H := out_step H (by assumption))); first | replace H := cond_t h H | replace H := cond_f h H | exact absurd h (by decide) | skip)
    | ((with_reducible refine Ob.mk ?_); first | rfl | (repeat (first | exact grd_p H | (have hp := grd_p H; exact hp) | replace H := grd_k H | replace H := out_step H (by assumption) | (replace H := bind_some H; obtain ⟨_, _, H⟩ := H))))
    | (with_reducible exact True.intro)
    | constructor
    | ((conv => whnf); first
        | ((with_reducible refine Ob.mk ?_); first | rfl | (repeat (first | exact grd_p H | (have hp := grd_p H; exact hp) | replace H := grd_k H | replace H := out_step H (by assumption) | (replace H := bind_some H; obtain ⟨_, _, H⟩ := H))))
        | ((with_reducible refine CallW.mk ?_); (repeat (first | replace H := grd_k H | replace H := out_step H (by assumption))); replace H := bind_some H; obtain ⟨y, hy, H⟩ := H; first | ((with_reducible have hz : impl_VerifyChecksum _ = some y := hy); clear hz; refine Exists.intro _ (Exists.intro _ ⟨impl_VerifyChecksum.call hy ?_, rfl, rfl, ?_⟩)) | ((with_reducible have hz : strconv_Itoa _ = some y := hy); clear hz; refine Exists.intro _ (Exists.intro _ ⟨strconv_Itoa.call hy ?_, rfl, rfl, ?_⟩)) | ((with_reducible have hz : strings_CutPrefix _ _ = some y := hy); clear hz; refine Exists.intro _ (Exists.intro _ ⟨strings_CutPrefix.call hy ?_, rfl, rfl, ?_⟩)) | ((with_reducible have hz : strings_Cut _ _ = some y := hy); clear hz; refine Exists.intro _ (Exists.intro _ ⟨strings_Cut.call hy ?_, rfl, rfl, ?_⟩)) | ((with_reducible have hz : impl_IsValidRecord _ = some y := hy); clear hz; refine Exists.intro _ (Exists.intro _ ⟨impl_IsValidRecord.call hy ?_, rfl, rfl, ?_⟩)))
        | ((with_reducible refine fin_mk ?_); (repeat (first | replace H := grd_k H | replace H := out_step H (by assumption))); have H := Option.some.inj H; subst H))
def G32 : Env := G31.add 70 [] impl_decodeRecord.S
theorem G32_ok : EnvOk Tryd.prog G32 := G31_ok.add ent_70 fun ar h r h1 ⟨a0, a1, y, hy, e1, e2, e3, e4⟩ => by
  subst e3 e4; exact (impl_decodeRecord.spec a0 a1 y hy).le e1 e2
attribute [local irreducible] impl_decodeRecord

noncomputable def impl_readRecords_loop1 (a0 : ByteArray) (v10 : Int) (v11 : (List LogRecord)) (v12 : (List Int)) : Option (Lp (Int × (List LogRecord) × (List Int)) (((List LogRecord) × (List Int)))) :=
  (cond (decide ((v11.length : Int) < (60 : Int))) (grd (0 ≤ v10 ∧ v10 ≤ (a0.size : Int) ∧ (a0.size : Int) ≤ (a0.size : Int)) ((strings_Cut (bsub a0 v10 (a0.size : Int)) (ByteArray.mk #[10])).bind fun y13 => ((impl_decodeRecord (v11.length : Int) y13.1).bind fun y14 => (cond (!y13.2.2) ((some (.out (v11, v12)))) (cond (!y14.2) ((some (.out (v11, v12)))) (grd ((v11.length + [(y14.1.1, y14.1.2.1, ())].length) * 32 ≤ 140737488355328 ∧ v11.length + [(y14.1.1, y14.1.2.1, ())].length ≤ 140737488355328) (grd ((v12.length + [(w64 (v10 + (w64 ((y13.1.size : Int) + (1 : Int)))))].length) * 8 ≤ 140737488355328 ∧ v12.length + [(w64 (v10 + (w64 ((y13.1.size : Int) + (1 : Int)))))].length ≤ 140737488355328) (some (.go ((w64 (v10 + (w64 ((y13.1.size : Int) + (1 : Int))))), (v11 ++ [(y14.1.1, y14.1.2.1, ())]), (v12 ++ [(w64 (v10 + (w64 ((y13.1.size : Int) + (1 : Int)))))]))))))))))) ((some (.out (v11, v12)))))
noncomputable def impl_readRecords (a0 : ByteArray) : Option ((List LogRecord) × (List Int)) :=
  ((iter (fun s => impl_readRecords_loop1 a0 s.1 s.2.1 s.2.2) ((0 : Int), ([] : List LogRecord), [(0 : Int)])).bind (fun r15 => (some (r15.1, r15.2))))
def impl_readRecords.res (_ : ByteArray) (_ : (List LogRecord) × (List Int)) : AV := (.tup [(.own 0), (.own 1)])
def impl_readRecords.out (_ : ByteArray) (y : (List LogRecord) × (List Int)) : List (Option LB) := [some (.arr 27 ty_LogRecord y.1), some (.arr 3 (.int .i64) y.2)]
def impl_readRecords.S (ar : List AV) (h : List (Option LB)) (r : AV) (h1 : List (Option LB)) : Prop := ∃ a0 y, impl_readRecords a0 = some y ∧ leL ar [(.v (.string a0))] ∧ leH h [] ∧ r = impl_readRecords.res a0 y ∧ h1 = impl_readRecords.out a0 y
theorem impl_readRecords.call {ar : List AV} {h : List (Option LB)} {a0 : ByteArray} {y : (List LogRecord) × (List Int)} (H : impl_readRecords a0 = some y) (h0 : leLk ar [(.v (.string a0))] (leHk h [])) : impl_readRecords.S ar h (impl_readRecords.res a0 y) (impl_readRecords.out a0 y) := ⟨a0, y, H, (args_ok h0).1, (args_ok h0).2, rfl, rfl⟩
set_option maxHeartbeats 100000000 in
set_option maxRecDepth 100000 in
theorem impl_readRecords.spec (a0 : ByteArray) (y : (List LogRecord) × (List Int)) (H : impl_readRecords a0 = some y) : Spec Tryd.prog 48 [(.v (.string a0))] [] (impl_readRecords.res a0 y) (impl_readRecords.out a0 y) := by
  refine spec_intro (G32_ok.at tok []) (ct := [(4, some [0, 4, 5, 6, 7, 9, 35, 36]), (6, some [0, 4, 5, 6, 7, 10, 35, 36])]) Tryd.func48 rfl (by kernel_rfl) (by kernel_rfl) rfl ?_
  repeat' first
    | ((with_reducible refine eqg ?_); exact rfl)
    | ((with_reducible refine KOb.mk ?_); kernel_rfl)
    | ((with_reducible intro h); (repeat (first | replace H := grd_k H | replace H := out_step H (by assumption))); first | replace H := cond_t h H | replace H := cond_f h H | exact absurd h (by decide) | skip)
    | ((with_reducible refine Ob.mk ?_); first | rfl | (repeat (first | exact grd_p H | (have hp := grd_p H; exact hp) | replace H := grd_k H | replace H := out_step H (by assumption) | (replace H := bind_some H; obtain ⟨_, _, H⟩ := H))))
    | (with_reducible exact True.intro)
    | constructor
    | ((conv => whnf); first
        | ((with_reducible refine Ob.mk ?_); first | rfl | (repeat (first | exact grd_p H | (have hp := grd_p H; exact hp) | replace H := grd_k H | replace H := out_step H (by assumption) | (replace H := bind_some H; obtain ⟨_, _, H⟩ := H))))
        | ((with_reducible refine CallW.mk ?_); (repeat (first | replace H := grd_k H | replace H := out_step H (by assumption))); replace H := bind_some H; obtain ⟨y, hy, H⟩ := H; first | ((with_reducible have hz : strings_Cut _ _ = some y := hy); clear hz; refine Exists.intro _ (Exists.intro _ ⟨strings_Cut.call hy ?_, rfl, rfl, ?_⟩)) | ((with_reducible have hz : impl_decodeRecord _ _ = some y := hy); clear hz; refine Exists.intro _ (Exists.intro _ ⟨impl_decodeRecord.call hy ?_, rfl, rfl, ?_⟩)))
        | ((repeat (first | replace H := grd_k H | replace H := out_step H (by assumption))); refine loop_iter (G32_ok.at tok []) (ct := [(4, some [0, 4, 5, 6, 7, 9, 35, 36]), (6, some [0, 4, 5, 6, 7, 10, 35, 36])]) (F := (fun s1 : Int × (List LogRecord) × (List Int) => ⟨sl [(0, (.v (.string a0))), (4, (.own 0)), (5, (.own 1)), (6, (.v (.int .i64 s1.1)))], [some (.arr 27 ty_LogRecord s1.2.1), some (.arr 3 (.int .i64) s1.2.2)]⟩)) (step := (fun s : Int × (List LogRecord) × (List Int) => impl_readRecords_loop1 _ s.1 s.2.1 s.2.2)) _ H (by kernel_rfl) (sub_auto ?_) ?_; rotate_left; (intro s1 r v hr H); rotate_right)
        | ((repeat (first | replace H := grd_k H | replace H := out_step H (by assumption))); refine again_step H (by assumption) (sub_auto ?_))
        | ((with_reducible refine fin_mk ?_); (repeat (first | replace H := grd_k H | replace H := out_step H (by assumption))); have H := Option.some.inj H; subst H))
def G33 : Env := G32.add 48 [] impl_readRecords.S
theorem G33_ok : EnvOk Tryd.prog G33 := G32_ok.add ent_48 fun ar h r h1 ⟨a0, y, hy, e1, e2, e3, e4⟩ => by
  subst e3 e4; exact (impl_readRecords.spec a0 y hy).le e1 e2
attribute [local irreducible] impl_readRecords

noncomputable def impl_RecoverLog (a0 : ByteArray) : Option (Log × Int × Bool) :=
  (cond (decide ((30000 : Int) < (a0.size : Int))) ((some (((ByteArray.mk #[]), (ByteArray.mk #[]), (0 : Int), ()), (0 : Int), false))) ((impl_readRecords a0).bind fun y1 => (grd (0 ≤ (w64 ((y1.2.length : Int) - (1 : Int))) ∧ (w64 ((y1.2.length : Int) - (1 : Int))) < (y1.2.length : Int)) (grd (0 ≤ (0 : Int) ∧ (0 : Int) ≤ (y1.2.getD ((w64 ((y1.2.length : Int) - (1 : Int))).toNat) 0) ∧ (y1.2.getD ((w64 ((y1.2.length : Int) - (1 : Int))).toNat) 0) ≤ (a0.size : Int)) ((some (((bsub a0 (0 : Int) (y1.2.getD ((w64 ((y1.2.length : Int) - (1 : Int))).toNat) 0)), (ByteArray.mk #[]), (y1.1.length : Int), ()), (y1.2.getD ((w64 ((y1.2.length : Int) - (1 : Int))).toNat) 0), true)))))))
def impl_RecoverLog.res (_ : ByteArray) (y : Log × Int × Bool) : AV := (.tup [(.agg [(.v (.string y.1.1)), (.v (.string y.1.2.1)), (.v (.int .i64 y.1.2.2.1))]), (.v (.int .i64 y.2.1)), (.bl y.2.2)])
def impl_RecoverLog.out (_ : ByteArray) (_ : Log × Int × Bool) : List (Option LB) := []
def impl_RecoverLog.S (ar : List AV) (h : List (Option LB)) (r : AV) (h1 : List (Option LB)) : Prop := ∃ a0 y, impl_RecoverLog a0 = some y ∧ leL ar [(.v (.string a0))] ∧ leH h [] ∧ r = impl_RecoverLog.res a0 y ∧ h1 = impl_RecoverLog.out a0 y
theorem impl_RecoverLog.call {ar : List AV} {h : List (Option LB)} {a0 : ByteArray} {y : Log × Int × Bool} (H : impl_RecoverLog a0 = some y) (h0 : leLk ar [(.v (.string a0))] (leHk h [])) : impl_RecoverLog.S ar h (impl_RecoverLog.res a0 y) (impl_RecoverLog.out a0 y) := ⟨a0, y, H, (args_ok h0).1, (args_ok h0).2, rfl, rfl⟩
set_option maxHeartbeats 100000000 in
set_option maxRecDepth 100000 in
theorem impl_RecoverLog.spec (a0 : ByteArray) (y : Log × Int × Bool) (H : impl_RecoverLog a0 = some y) : Spec Tryd.prog 18 [(.v (.string a0))] [] (impl_RecoverLog.res a0 y) (impl_RecoverLog.out a0 y) := by
  refine spec_intro (G33_ok.at tok []) (ct := [(4, some [0, 2, 5, 6])]) Tryd.func18 rfl (by kernel_rfl) (by kernel_rfl) rfl ?_
  repeat' first
    | ((with_reducible refine eqg ?_); exact rfl)
    | ((with_reducible refine KOb.mk ?_); kernel_rfl)
    | ((with_reducible intro h); (repeat (first | replace H := grd_k H | replace H := out_step H (by assumption))); first | replace H := cond_t h H | replace H := cond_f h H | exact absurd h (by decide) | skip)
    | ((with_reducible refine Ob.mk ?_); first | rfl | (repeat (first | exact grd_p H | (have hp := grd_p H; exact hp) | replace H := grd_k H | replace H := out_step H (by assumption) | (replace H := bind_some H; obtain ⟨_, _, H⟩ := H))))
    | (with_reducible exact True.intro)
    | constructor
    | ((conv => whnf); first
        | ((with_reducible refine Ob.mk ?_); first | rfl | (repeat (first | exact grd_p H | (have hp := grd_p H; exact hp) | replace H := grd_k H | replace H := out_step H (by assumption) | (replace H := bind_some H; obtain ⟨_, _, H⟩ := H))))
        | ((with_reducible refine CallW.mk ?_); (repeat (first | replace H := grd_k H | replace H := out_step H (by assumption))); replace H := bind_some H; obtain ⟨y, hy, H⟩ := H; first | ((with_reducible have hz : impl_readRecords _ = some y := hy); clear hz; refine Exists.intro _ (Exists.intro _ ⟨impl_readRecords.call hy ?_, rfl, rfl, ?_⟩)))
        | ((with_reducible refine fin_mk ?_); (repeat (first | replace H := grd_k H | replace H := out_step H (by assumption))); have H := Option.some.inj H; subst H))
def G34 : Env := G33.add 18 [] impl_RecoverLog.S
theorem G34_ok : EnvOk Tryd.prog G34 := G33_ok.add ent_18 fun ar h r h1 ⟨a0, y, hy, e1, e2, e3, e4⟩ => by
  subst e3 e4; exact (impl_RecoverLog.spec a0 y hy).le e1 e2
attribute [local irreducible] impl_RecoverLog

noncomputable def laws_eqLog (a0 : Log) (a1 : Log) : Option (Bool) :=
  (cond (!decide (a0.1 = a1.1)) ((some false)) (cond (!decide (a0.2.1 = a1.2.1)) ((some false)) (cond (!decide (a0.2.2.1 = a1.2.2.1)) ((some false)) ((some true)))))
def laws_eqLog.res (_ : Log) (_ : Log) (y : Bool) : AV := (.bl y)
def laws_eqLog.out (_ : Log) (_ : Log) (_ : Bool) : List (Option LB) := []
def laws_eqLog.S (ar : List AV) (h : List (Option LB)) (r : AV) (h1 : List (Option LB)) : Prop := ∃ a0 a1 y, laws_eqLog a0 a1 = some y ∧ leL ar [(.agg [(.v (.string a0.1)), (.v (.string a0.2.1)), (.v (.int .i64 a0.2.2.1))]), (.agg [(.v (.string a1.1)), (.v (.string a1.2.1)), (.v (.int .i64 a1.2.2.1))])] ∧ leH h [] ∧ r = laws_eqLog.res a0 a1 y ∧ h1 = laws_eqLog.out a0 a1 y
theorem laws_eqLog.call {ar : List AV} {h : List (Option LB)} {a0 : Log} {a1 : Log} {y : Bool} (H : laws_eqLog a0 a1 = some y) (h0 : leLk ar [(.agg [(.v (.string a0.1)), (.v (.string a0.2.1)), (.v (.int .i64 a0.2.2.1))]), (.agg [(.v (.string a1.1)), (.v (.string a1.2.1)), (.v (.int .i64 a1.2.2.1))])] (leHk h [])) : laws_eqLog.S ar h (laws_eqLog.res a0 a1 y) (laws_eqLog.out a0 a1 y) := ⟨a0, a1, y, H, (args_ok h0).1, (args_ok h0).2, rfl, rfl⟩
set_option maxHeartbeats 100000000 in
set_option maxRecDepth 100000 in
theorem laws_eqLog.spec (a0 : Log) (a1 : Log) (y : Bool) (H : laws_eqLog a0 a1 = some y) : Spec Tryd.prog 19 [(.agg [(.v (.string a0.1)), (.v (.string a0.2.1)), (.v (.int .i64 a0.2.2.1))]), (.agg [(.v (.string a1.1)), (.v (.string a1.2.1)), (.v (.int .i64 a1.2.2.1))])] [] (laws_eqLog.res a0 a1 y) (laws_eqLog.out a0 a1 y) := by
  refine spec_intro (G34_ok.at tok []) (ct := [(4, some [2, 3, 14])]) Tryd.func19 rfl (by kernel_rfl) (by kernel_rfl) rfl ?_
  repeat' first
    | ((with_reducible refine eqg ?_); exact rfl)
    | ((with_reducible refine KOb.mk ?_); kernel_rfl)
    | ((with_reducible intro h); (repeat (first | replace H := grd_k H | replace H := out_step H (by assumption))); first | replace H := cond_t h H | replace H := cond_f h H | exact absurd h (by decide) | skip)
    | ((with_reducible refine Ob.mk ?_); first | rfl | (repeat (first | exact grd_p H | (have hp := grd_p H; exact hp) | replace H := grd_k H | replace H := out_step H (by assumption) | (replace H := bind_some H; obtain ⟨_, _, H⟩ := H))))
    | (with_reducible exact True.intro)
    | constructor
    | ((conv => whnf); first
        | ((with_reducible refine Ob.mk ?_); first | rfl | (repeat (first | exact grd_p H | (have hp := grd_p H; exact hp) | replace H := grd_k H | replace H := out_step H (by assumption) | (replace H := bind_some H; obtain ⟨_, _, H⟩ := H))))
        | ((with_reducible refine fin_mk ?_); (repeat (first | replace H := grd_k H | replace H := out_step H (by assumption))); have H := Option.some.inj H; subst H))
def G35 : Env := G34.add 19 [] laws_eqLog.S
theorem G35_ok : EnvOk Tryd.prog G35 := G34_ok.add ent_19 fun ar h r h1 ⟨a0, a1, y, hy, e1, e2, e3, e4⟩ => by
  subst e3 e4; exact (laws_eqLog.spec a0 a1 y hy).le e1 e2
attribute [local irreducible] laws_eqLog

noncomputable def laws_FnExactRecoverLog (a0 : ByteArray) : Option (Bool) :=
  (cond (decide ((1048576 : Int) < (a0.size : Int))) ((some true)) ((spec_RecoverLog a0).bind fun y1 => ((impl_RecoverLog a0).bind fun y2 => ((laws_eqLog (y2.1.1, y2.1.2.1, y2.1.2.2.1, ()) (y1.1.1, y1.1.2.1, y1.1.2.2.1, ())).bind fun y3 => (cond (!y3) ((some false)) (cond (!decide (y2.2.1 = y1.2.1)) ((some false)) (cond (!(y2.2.2 == y1.2.2)) ((some false)) ((some true)))))))))
def laws_FnExactRecoverLog.res (_ : ByteArray) (y : Bool) : AV := (.bl y)
def laws_FnExactRecoverLog.out (_ : ByteArray) (_ : Bool) : List (Option LB) := []
def laws_FnExactRecoverLog.S (ar : List AV) (h : List (Option LB)) (r : AV) (h1 : List (Option LB)) : Prop := ∃ a0 y, laws_FnExactRecoverLog a0 = some y ∧ leL ar [(.v (.string a0))] ∧ leH h [] ∧ r = laws_FnExactRecoverLog.res a0 y ∧ h1 = laws_FnExactRecoverLog.out a0 y
theorem laws_FnExactRecoverLog.call {ar : List AV} {h : List (Option LB)} {a0 : ByteArray} {y : Bool} (H : laws_FnExactRecoverLog a0 = some y) (h0 : leLk ar [(.v (.string a0))] (leHk h [])) : laws_FnExactRecoverLog.S ar h (laws_FnExactRecoverLog.res a0 y) (laws_FnExactRecoverLog.out a0 y) := ⟨a0, y, H, (args_ok h0).1, (args_ok h0).2, rfl, rfl⟩
set_option maxHeartbeats 100000000 in
set_option maxRecDepth 100000 in
theorem laws_FnExactRecoverLog.spec (a0 : ByteArray) (y : Bool) (H : laws_FnExactRecoverLog a0 = some y) : Spec Tryd.prog 4 [(.v (.string a0))] [] (laws_FnExactRecoverLog.res a0 y) (laws_FnExactRecoverLog.out a0 y) := by
  refine spec_intro (G35_ok.at tok []) (ct := [(4, some [0, 3, 4, 5, 29, 30, 31, 34, 35, 36]), (6, some [37])]) Tryd.func4 rfl (by kernel_rfl) (by kernel_rfl) rfl ?_
  repeat' first
    | ((with_reducible refine eqg ?_); exact rfl)
    | ((with_reducible refine KOb.mk ?_); kernel_rfl)
    | ((with_reducible intro h); (repeat (first | replace H := grd_k H | replace H := out_step H (by assumption))); first | replace H := cond_t h H | replace H := cond_f h H | exact absurd h (by decide) | skip)
    | ((with_reducible refine Ob.mk ?_); first | rfl | (repeat (first | exact grd_p H | (have hp := grd_p H; exact hp) | replace H := grd_k H | replace H := out_step H (by assumption) | (replace H := bind_some H; obtain ⟨_, _, H⟩ := H))))
    | (with_reducible exact True.intro)
    | constructor
    | ((conv => whnf); first
        | ((with_reducible refine Ob.mk ?_); first | rfl | (repeat (first | exact grd_p H | (have hp := grd_p H; exact hp) | replace H := grd_k H | replace H := out_step H (by assumption) | (replace H := bind_some H; obtain ⟨_, _, H⟩ := H))))
        | ((with_reducible refine CallW.mk ?_); (repeat (first | replace H := grd_k H | replace H := out_step H (by assumption))); replace H := bind_some H; obtain ⟨y, hy, H⟩ := H; first | ((with_reducible have hz : spec_RecoverLog _ = some y := hy); clear hz; refine Exists.intro _ (Exists.intro _ ⟨spec_RecoverLog.call hy ?_, rfl, rfl, ?_⟩)) | ((with_reducible have hz : impl_RecoverLog _ = some y := hy); clear hz; refine Exists.intro _ (Exists.intro _ ⟨impl_RecoverLog.call hy ?_, rfl, rfl, ?_⟩)) | ((with_reducible have hz : laws_eqLog _ _ = some y := hy); clear hz; refine Exists.intro _ (Exists.intro _ ⟨laws_eqLog.call hy ?_, rfl, rfl, ?_⟩)))
        | ((with_reducible refine fin_mk ?_); (repeat (first | replace H := grd_k H | replace H := out_step H (by assumption))); have H := Option.some.inj H; subst H))
def G36 : Env := G35.add 4 [] laws_FnExactRecoverLog.S
theorem G36_ok : EnvOk Tryd.prog G36 := G35_ok.add ent_4 fun ar h r h1 ⟨a0, y, hy, e1, e2, e3, e4⟩ => by
  subst e3 e4; exact (laws_FnExactRecoverLog.spec a0 y hy).le e1 e2
attribute [local irreducible] laws_FnExactRecoverLog

end Go.Proofs.YtpfdhaldjeedfaaDoor
