/-
  Contracts, printed by a program.
-/
import Derived.Test.YtdlngdmdebpadaaDoorC406
namespace Go.Proofs.YtdlngdmdebpadaaDoor
open Go.RowKit
attribute [local irreducible] Ob loopwp Sub Spec Fin Again CallW CutC KOb iter joinx outm

attribute [local irreducible] laws_szSlotS laws_szRopeway laws_szLog laws_szConsole laws_toSlot laws_toSlotS laws_toRopeway laws_toLog laws_toConsole spec_l1In spec_l25Slot spec_l25Good spec_l1Split spec_l1Num spec_l1Num_f spec_l27Plain spec_l1Stands spec_l27Good spec_l1Sum spec_l1Seal spec_l27Line spec_l27Read spec_l27Open spec_l27Log spec_l28Good spec_FormatConsole impl_within impl_Ropeway_isStation impl_IsRopeway_1_i1 slices_IndexFunc___impl_Slot_impl_Slot__i1 slices_ContainsFunc___impl_Slot_impl_Slot__i1 impl_IsRopeway strings_Cut strings_Contains impl_checksum strconv_Itoa impl_AppendChecksum impl_VerifyChecksum internal_stringslite_HasPrefix internal_stringslite_CutPrefix strings_CutPrefix strings_ContainsAny impl_isPlain

noncomputable def impl_IsValidRecord (a0 : LogRecord) : Option (Bool) :=
  ((impl_within (a0.1.size : Int) (1 : Int) (160 : Int)).bind fun y1 => (cond y1 (cond (decide ((a0.2.1.size : Int) ≤ (200 : Int))) ((impl_isPlain a0.1 (ByteArray.mk #[35, 64])).bind fun y2 => (cond y2 ((impl_isPlain a0.2.1 (ByteArray.mk #[35])).bind fun y3 => (some y3)) ((some false)))) ((some false))) ((some false))))
def impl_IsValidRecord.res (_ : LogRecord) (y : Bool) : AV := (.bl y)
def impl_IsValidRecord.out (_ : LogRecord) (_ : Bool) : List (Option LB) := []
def impl_IsValidRecord.S (ar : List AV) (h : List (Option LB)) (r : AV) (h1 : List (Option LB)) : Prop := ∃ a0 y, impl_IsValidRecord a0 = some y ∧ leL ar [(.agg [(.v (.string a0.1)), (.v (.string a0.2.1))])] ∧ leH h [] ∧ r = impl_IsValidRecord.res a0 y ∧ h1 = impl_IsValidRecord.out a0 y
theorem impl_IsValidRecord.call {ar : List AV} {h : List (Option LB)} {a0 : LogRecord} {y : Bool} (H : impl_IsValidRecord a0 = some y) (h0 : leLk ar [(.agg [(.v (.string a0.1)), (.v (.string a0.2.1))])] (leHk h [])) : impl_IsValidRecord.S ar h (impl_IsValidRecord.res a0 y) (impl_IsValidRecord.out a0 y) := ⟨a0, y, H, (args_ok h0).1, (args_ok h0).2, rfl, rfl⟩
set_option maxHeartbeats 100000000 in
set_option maxRecDepth 100000 in
theorem impl_IsValidRecord.spec (a0 : LogRecord) (y : Bool) (H : impl_IsValidRecord a0 = some y) : Spec Tryd.prog 63 [(.agg [(.v (.string a0.1)), (.v (.string a0.2.1))])] [] (impl_IsValidRecord.res a0 y) (impl_IsValidRecord.out a0 y) := by
  refine spec_intro (G42_ok.at tok []) (ct := []) Tryd.func63 rfl (by kernel_rfl) (by kernel_rfl) rfl ?_
  repeat' first
    | ((with_reducible refine eqg ?_); exact rfl)
    | ((with_reducible refine KOb.mk ?_); kernel_rfl)
    | ((with_reducible intro h); (repeat (first | replace H := grd_k H | replace H := out_step H (by assumption))); first | replace H := cond_t h H | replace H := cond_f h H | exact absurd h (by decide) | skip)
    | ((with_reducible refine Ob.mk ?_); first | (with_reducible rfl) | (first | ((repeat (first | (with_reducible exact grd_p H) | (replace H := grd_k H) | (replace H := out_step H (by assumption)))); done) | rfl | ((repeat (first | exact grd_p H | replace H := grd_k H | replace H := out_step H (by assumption))); done) | ((repeat (first | exact grd_p H | (have hp := grd_p H; exact hp) | replace H := grd_k H | replace H := out_step H (by assumption) | (replace H := bind_some H; obtain ⟨_, _, H⟩ := H))); done) | (repeat (first | exact grd_p H | replace H := grd_k H | replace H := out_step H (by assumption)))))
    | (with_reducible exact True.intro)
    | constructor
    | ((conv => whnf); first
        | ((with_reducible refine Ob.mk ?_); first | (with_reducible rfl) | (first | ((repeat (first | (with_reducible exact grd_p H) | (replace H := grd_k H) | (replace H := out_step H (by assumption)))); done) | rfl | ((repeat (first | exact grd_p H | replace H := grd_k H | replace H := out_step H (by assumption))); done) | ((repeat (first | exact grd_p H | (have hp := grd_p H; exact hp) | replace H := grd_k H | replace H := out_step H (by assumption) | (replace H := bind_some H; obtain ⟨_, _, H⟩ := H))); done) | (repeat (first | exact grd_p H | replace H := grd_k H | replace H := out_step H (by assumption)))))
        | ((with_reducible refine CallW.mk ?_); (repeat (first | replace H := grd_k H | replace H := out_step H (by assumption))); replace H := bind_some H; obtain ⟨y, hy, H⟩ := H; first | ((with_reducible have hz : impl_within _ _ _ = some y := hy); clear hz; refine Exists.intro _ (Exists.intro _ ⟨impl_within.call hy ?_, rfl, rfl, ?_⟩)) | ((with_reducible have hz : impl_isPlain _ _ = some y := hy); clear hz; refine Exists.intro _ (Exists.intro _ ⟨impl_isPlain.call hy ?_, rfl, rfl, ?_⟩)))
        | ((with_reducible refine fin_mk ?_); (repeat (first | replace H := grd_k H | replace H := out_step H (by assumption))); have H := Option.some.inj H; subst H))
def G43 : Env := G42.add 63 [] impl_IsValidRecord.S
theorem G43_ok : EnvOk Tryd.prog G43 := G42_ok.add ent_63 fun ar h r h1 ⟨a0, y, hy, e1, e2, e3, e4⟩ => by
  subst e3 e4; exact (impl_IsValidRecord.spec a0 y hy).le e1 e2
attribute [local irreducible] impl_IsValidRecord

noncomputable def impl_decodeRecord (a0 : Int) (a1 : ByteArray) : Option (LogRecord × Bool) :=
  ((impl_VerifyChecksum a1).bind fun y1 => ((strconv_Itoa a0).bind fun y2 => (grd (y2.size + (ByteArray.mk #[32]).size ≤ 9223372036854775807) ((strings_CutPrefix y1.1 (y2 ++ (ByteArray.mk #[32]))).bind fun y3 => ((strings_Cut y3.1 (ByteArray.mk #[64])).bind fun y4 => (cond y1.2 (cond y3.2 (cond y4.2.2 ((impl_IsValidRecord (y4.1, y4.2.1, ())).bind fun y5 => (some ((y4.1, y4.2.1, ()), y5))) ((some ((y4.1, y4.2.1, ()), false)))) ((some ((y4.1, y4.2.1, ()), false)))) ((some ((y4.1, y4.2.1, ()), false)))))))))
def impl_decodeRecord.res (_ : Int) (_ : ByteArray) (y : LogRecord × Bool) : AV := (.tup [(.agg [(.v (.string y.1.1)), (.v (.string y.1.2.1))]), (.bl y.2)])
def impl_decodeRecord.out (_ : Int) (_ : ByteArray) (_ : LogRecord × Bool) : List (Option LB) := []
def impl_decodeRecord.S (ar : List AV) (h : List (Option LB)) (r : AV) (h1 : List (Option LB)) : Prop := ∃ a0 a1 y, impl_decodeRecord a0 a1 = some y ∧ leL ar [(.v (.int .i64 a0)), (.v (.string a1))] ∧ leH h [] ∧ r = impl_decodeRecord.res a0 a1 y ∧ h1 = impl_decodeRecord.out a0 a1 y
theorem impl_decodeRecord.call {ar : List AV} {h : List (Option LB)} {a0 : Int} {a1 : ByteArray} {y : LogRecord × Bool} (H : impl_decodeRecord a0 a1 = some y) (h0 : leLk ar [(.v (.int .i64 a0)), (.v (.string a1))] (leHk h [])) : impl_decodeRecord.S ar h (impl_decodeRecord.res a0 a1 y) (impl_decodeRecord.out a0 a1 y) := ⟨a0, a1, y, H, (args_ok h0).1, (args_ok h0).2, rfl, rfl⟩
set_option maxHeartbeats 100000000 in
set_option maxRecDepth 100000 in
theorem impl_decodeRecord.spec (a0 : Int) (a1 : ByteArray) (y : LogRecord × Bool) (H : impl_decodeRecord a0 a1 = some y) : Spec Tryd.prog 51 [(.v (.int .i64 a0)), (.v (.string a1))] [] (impl_decodeRecord.res a0 a1 y) (impl_decodeRecord.out a0 a1 y) := by
  refine spec_intro (G43_ok.at tok []) (ct := [(3, some [4, 7, 8, 9, 39, 42, 45, 46])]) Tryd.func51 rfl (by kernel_rfl) (by kernel_rfl) rfl ?_
  repeat' first
    | ((with_reducible refine eqg ?_); exact rfl)
    | ((with_reducible refine KOb.mk ?_); kernel_rfl)
    | ((with_reducible intro h); (repeat (first | replace H := grd_k H | replace H := out_step H (by assumption))); first | replace H := cond_t h H | replace H := cond_f h H | exact absurd h (by decide) | skip)
    | ((with_reducible refine Ob.mk ?_); first | (with_reducible rfl) | (first | ((repeat (first | (with_reducible exact grd_p H) | (replace H := grd_k H) | (replace H := out_step H (by assumption)))); done) | rfl | ((repeat (first | exact grd_p H | replace H := grd_k H | replace H := out_step H (by assumption))); done) | ((repeat (first | exact grd_p H | (have hp := grd_p H; exact hp) | replace H := grd_k H | replace H := out_step H (by assumption) | (replace H := bind_some H; obtain ⟨_, _, H⟩ := H))); done) | (repeat (first | exact grd_p H | replace H := grd_k H | replace H := out_step H (by assumption)))))
    | (with_reducible exact True.intro)
    | constructor
    | ((conv => whnf); first
        | ((with_reducible refine Ob.mk ?_); first | (with_reducible rfl) | (first | ((repeat (first | (with_reducible exact grd_p H) | (replace H := grd_k H) | (replace H := out_step H (by assumption)))); done) | rfl | ((repeat (first | exact grd_p H | replace H := grd_k H | replace H := out_step H (by assumption))); done) | ((repeat (first | exact grd_p H | (have hp := grd_p H; exact hp) | replace H := grd_k H | replace H := out_step H (by assumption) | (replace H := bind_some H; obtain ⟨_, _, H⟩ := H))); done) | (repeat (first | exact grd_p H | replace H := grd_k H | replace H := out_step H (by assumption)))))
        | ((with_reducible refine CallW.mk ?_); (repeat (first | replace H := grd_k H | replace H := out_step H (by assumption))); replace H := bind_some H; obtain ⟨y, hy, H⟩ := H; first | ((with_reducible have hz : impl_VerifyChecksum _ = some y := hy); clear hz; refine Exists.intro _ (Exists.intro _ ⟨impl_VerifyChecksum.call hy ?_, rfl, rfl, ?_⟩)) | ((with_reducible have hz : strconv_Itoa _ = some y := hy); clear hz; refine Exists.intro _ (Exists.intro _ ⟨strconv_Itoa.call hy ?_, rfl, rfl, ?_⟩)) | ((with_reducible have hz : strings_CutPrefix _ _ = some y := hy); clear hz; refine Exists.intro _ (Exists.intro _ ⟨strings_CutPrefix.call hy ?_, rfl, rfl, ?_⟩)) | ((with_reducible have hz : strings_Cut _ _ = some y := hy); clear hz; refine Exists.intro _ (Exists.intro _ ⟨strings_Cut.call hy ?_, rfl, rfl, ?_⟩)) | ((with_reducible have hz : impl_IsValidRecord _ = some y := hy); clear hz; refine Exists.intro _ (Exists.intro _ ⟨impl_IsValidRecord.call hy ?_, rfl, rfl, ?_⟩)))
        | ((with_reducible refine fin_mk ?_); (repeat (first | replace H := grd_k H | replace H := out_step H (by assumption))); have H := Option.some.inj H; subst H))
def G44 : Env := G43.add 51 [] impl_decodeRecord.S
theorem G44_ok : EnvOk Tryd.prog G44 := G43_ok.add ent_51 fun ar h r h1 ⟨a0, a1, y, hy, e1, e2, e3, e4⟩ => by
  subst e3 e4; exact (impl_decodeRecord.spec a0 a1 y hy).le e1 e2
attribute [local irreducible] impl_decodeRecord

noncomputable def impl_readRecords_loop1 (a0 : ByteArray) (v10 : Int) (v11 : (List LogRecord)) (v12 : (List Int)) : Option (Lp (Int × (List LogRecord) × (List Int)) (((List LogRecord) × (List Int)))) :=
  (cond (decide ((v11.length : Int) < (60 : Int))) (grd (0 ≤ v10 ∧ v10 ≤ (a0.size : Int) ∧ (a0.size : Int) ≤ (a0.size : Int)) ((strings_Cut (bsub a0 v10 (a0.size : Int)) (ByteArray.mk #[10])).bind fun y13 => ((impl_decodeRecord (v11.length : Int) y13.1).bind fun y14 => (cond (!y13.2.2) ((some (.out (v11, v12)))) (cond (!y14.2) ((some (.out (v11, v12)))) (grd (v11.length + [(y14.1.1, y14.1.2.1, ())].length ≤ 140737488355328 / 32 ∧ v11.length + [(y14.1.1, y14.1.2.1, ())].length ≤ 140737488355328) (grd (v12.length + [(w64 (v10 + (w64 ((y13.1.size : Int) + (1 : Int)))))].length ≤ 140737488355328 / 8 ∧ v12.length + [(w64 (v10 + (w64 ((y13.1.size : Int) + (1 : Int)))))].length ≤ 140737488355328) (some (.go ((w64 (v10 + (w64 ((y13.1.size : Int) + (1 : Int))))), (v11 ++ [(y14.1.1, y14.1.2.1, ())]), (v12 ++ [(w64 (v10 + (w64 ((y13.1.size : Int) + (1 : Int)))))]))))))))))) ((some (.out (v11, v12)))))
noncomputable def impl_readRecords (a0 : ByteArray) : Option ((List LogRecord) × (List Int)) :=
  ((iter (fun s => impl_readRecords_loop1 a0 s.1 s.2.1 s.2.2) ((0 : Int), ([] : List LogRecord), [(0 : Int)])).bind (fun r15 => (some (r15.1, r15.2))))
def impl_readRecords.res (_ : ByteArray) (_ : (List LogRecord) × (List Int)) : AV := (.tup [(.own 0), (.own 1)])
def impl_readRecords.out (_ : ByteArray) (y : (List LogRecord) × (List Int)) : List (Option LB) := [some (.arr 89 ty_LogRecord y.1), some (.arr 3 (.int .i64) y.2)]
def impl_readRecords.S (ar : List AV) (h : List (Option LB)) (r : AV) (h1 : List (Option LB)) : Prop := ∃ a0 y, impl_readRecords a0 = some y ∧ leL ar [(.v (.string a0))] ∧ leH h [] ∧ r = impl_readRecords.res a0 y ∧ h1 = impl_readRecords.out a0 y
theorem impl_readRecords.call {ar : List AV} {h : List (Option LB)} {a0 : ByteArray} {y : (List LogRecord) × (List Int)} (H : impl_readRecords a0 = some y) (h0 : leLk ar [(.v (.string a0))] (leHk h [])) : impl_readRecords.S ar h (impl_readRecords.res a0 y) (impl_readRecords.out a0 y) := ⟨a0, y, H, (args_ok h0).1, (args_ok h0).2, rfl, rfl⟩
set_option maxHeartbeats 100000000 in
set_option maxRecDepth 100000 in
theorem impl_readRecords.spec (a0 : ByteArray) (y : (List LogRecord) × (List Int)) (H : impl_readRecords a0 = some y) : Spec Tryd.prog 43 [(.v (.string a0))] [] (impl_readRecords.res a0 y) (impl_readRecords.out a0 y) := by
  refine spec_intro (G44_ok.at tok []) (ct := [(4, some [0, 4, 5, 6, 7, 9, 35, 36]), (6, some [0, 4, 5, 6, 7, 10, 35, 36])]) Tryd.func43 rfl (by kernel_rfl) (by kernel_rfl) rfl ?_
  repeat' first
    | ((with_reducible refine eqg ?_); exact rfl)
    | ((with_reducible refine KOb.mk ?_); kernel_rfl)
    | ((with_reducible intro h); (repeat (first | replace H := grd_k H | replace H := out_step H (by assumption))); first | replace H := cond_t h H | replace H := cond_f h H | exact absurd h (by decide) | skip)
    | ((with_reducible refine Ob.mk ?_); first | (with_reducible rfl) | (first | ((repeat (first | (with_reducible exact grd_p H) | (replace H := grd_k H) | (replace H := out_step H (by assumption)))); done) | rfl | ((repeat (first | exact grd_p H | replace H := grd_k H | replace H := out_step H (by assumption))); done) | ((repeat (first | exact grd_p H | (have hp := grd_p H; exact hp) | replace H := grd_k H | replace H := out_step H (by assumption) | (replace H := bind_some H; obtain ⟨_, _, H⟩ := H))); done) | (repeat (first | exact grd_p H | replace H := grd_k H | replace H := out_step H (by assumption)))))
    | (with_reducible exact True.intro)
    | constructor
    | ((conv => whnf); first
        | ((with_reducible refine Ob.mk ?_); first | (with_reducible rfl) | (first | ((repeat (first | (with_reducible exact grd_p H) | (replace H := grd_k H) | (replace H := out_step H (by assumption)))); done) | rfl | ((repeat (first | exact grd_p H | replace H := grd_k H | replace H := out_step H (by assumption))); done) | ((repeat (first | exact grd_p H | (have hp := grd_p H; exact hp) | replace H := grd_k H | replace H := out_step H (by assumption) | (replace H := bind_some H; obtain ⟨_, _, H⟩ := H))); done) | (repeat (first | exact grd_p H | replace H := grd_k H | replace H := out_step H (by assumption)))))
        | ((with_reducible refine CallW.mk ?_); (repeat (first | replace H := grd_k H | replace H := out_step H (by assumption))); replace H := bind_some H; obtain ⟨y, hy, H⟩ := H; first | ((with_reducible have hz : strings_Cut _ _ = some y := hy); clear hz; refine Exists.intro _ (Exists.intro _ ⟨strings_Cut.call hy ?_, rfl, rfl, ?_⟩)) | ((with_reducible have hz : impl_decodeRecord _ _ = some y := hy); clear hz; refine Exists.intro _ (Exists.intro _ ⟨impl_decodeRecord.call hy ?_, rfl, rfl, ?_⟩)))
        | ((repeat (first | replace H := grd_k H | replace H := out_step H (by assumption))); refine loop_iter (G44_ok.at tok []) (ct := [(4, some [0, 4, 5, 6, 7, 9, 35, 36]), (6, some [0, 4, 5, 6, 7, 10, 35, 36])]) (F := (fun s1 : Int × (List LogRecord) × (List Int) => ⟨sl [(0, (.v (.string a0))), (4, (.own 0)), (5, (.own 1)), (6, (.v (.int .i64 s1.1)))], [some (.arr 89 ty_LogRecord s1.2.1), some (.arr 3 (.int .i64) s1.2.2)]⟩)) (step := (fun s : Int × (List LogRecord) × (List Int) => impl_readRecords_loop1 _ s.1 s.2.1 s.2.2)) _ H (by kernel_rfl) (sub_auto ?_) ?_; rotate_left; (intro s1 r v hr H); rotate_right)
        | ((repeat (first | replace H := grd_k H | replace H := out_step H (by assumption))); refine again_step H (by assumption) (sub_auto ?_))
        | ((with_reducible refine fin_mk ?_); (repeat (first | replace H := grd_k H | replace H := out_step H (by assumption))); have H := Option.some.inj H; subst H))
def G45 : Env := G44.add 43 [] impl_readRecords.S
theorem G45_ok : EnvOk Tryd.prog G45 := G44_ok.add ent_43 fun ar h r h1 ⟨a0, y, hy, e1, e2, e3, e4⟩ => by
  subst e3 e4; exact (impl_readRecords.spec a0 y hy).le e1 e2
attribute [local irreducible] impl_readRecords

noncomputable def impl_Log_records_loop1 (a0 : Log) (v17 : Bool) (v18 : Bool) (v19 : Int) (v20 : Int) (v21 : (List LogRecord)) (v22 : (List Int)) : Option (Lp (Bool × Bool × Int × Int × (List LogRecord) × (List Int)) ((Bool × Bool × (List LogRecord)))) :=
  (cond (decide (v20 < v19)) (grd (0 ≤ v20 ∧ v20 < (v22.length : Int)) (cond v18 (some (.go (v17, true, v19, (w64 (v20 + (1 : Int))), v21, v22))) (some (.go (v17, (decide ((v22.getD v20.toNat 0) = (a0.1.size : Int))), v19, (w64 (v20 + (1 : Int))), v21, v22))))) ((some (.out (v17, v18, v21)))))
noncomputable def impl_Log_records (a0 : Log) : Option ((List LogRecord) × Bool) :=
  (grd (a0.1.size + a0.2.1.size ≤ 9223372036854775807) ((impl_readRecords (a0.1 ++ a0.2.1)).bind fun y1 => ((grd (0 ≤ (w64 ((y1.2.length : Int) - (1 : Int))) ∧ (w64 ((y1.2.length : Int) - (1 : Int))) < (y1.2.length : Int)) (cond (decide ((y1.2.getD ((w64 ((y1.2.length : Int) - (1 : Int))).toNat) 0) = ((a0.1 ++ a0.2.1).size : Int))) ((some ((decide (a0.2.2.1 = (y1.1.length : Int))), y1.1, y1.2))) ((some (false, y1.1, y1.2))))).bind fun z2 => ((iter (fun s => impl_Log_records_loop1 a0 s.1 s.2.1 s.2.2.1 s.2.2.2.1 s.2.2.2.2.1 s.2.2.2.2.2) (z2.1, false, (z2.2.2.length : Int), (0 : Int), z2.2.1, z2.2.2)).bind (fun r23 => (cond r23.1 ((some (r23.2.2, r23.2.1))) ((some (r23.2.2, false)))))))))
def impl_Log_records.res (_ : Log) (y : (List LogRecord) × Bool) : AV := (.tup [(.own 0), (.bl y.2)])
def impl_Log_records.out (_ : Log) (y : (List LogRecord) × Bool) : List (Option LB) := [some (.arr 89 ty_LogRecord y.1)]
def impl_Log_records.S (ar : List AV) (h : List (Option LB)) (r : AV) (h1 : List (Option LB)) : Prop := ∃ a0 y, impl_Log_records a0 = some y ∧ leL ar [(.agg [(.v (.string a0.1)), (.v (.string a0.2.1)), (.v (.int .i64 a0.2.2.1))])] ∧ leH h [] ∧ r = impl_Log_records.res a0 y ∧ h1 = impl_Log_records.out a0 y
theorem impl_Log_records.call {ar : List AV} {h : List (Option LB)} {a0 : Log} {y : (List LogRecord) × Bool} (H : impl_Log_records a0 = some y) (h0 : leLk ar [(.agg [(.v (.string a0.1)), (.v (.string a0.2.1)), (.v (.int .i64 a0.2.2.1))])] (leHk h [])) : impl_Log_records.S ar h (impl_Log_records.res a0 y) (impl_Log_records.out a0 y) := ⟨a0, y, H, (args_ok h0).1, (args_ok h0).2, rfl, rfl⟩
set_option maxHeartbeats 100000000 in
set_option maxRecDepth 100000 in
theorem impl_Log_records.spec (a0 : Log) (y : (List LogRecord) × Bool) (H : impl_Log_records a0 = some y) : Spec Tryd.prog 32 [(.agg [(.v (.string a0.1)), (.v (.string a0.2.1)), (.v (.int .i64 a0.2.2.1))])] [] (impl_Log_records.res a0 y) (impl_Log_records.out a0 y) := by
  refine spec_intro (G45_ok.at tok []) (ct := [(4, none), (3, some [1, 4, 5, 6, 31, 32, 33, 34, 35, 45, 46, 47, 48, 49, 55])]) Tryd.func32 rfl (by kernel_rfl) (by kernel_rfl) rfl ?_
  repeat' first
    | ((with_reducible refine eqg ?_); exact rfl)
    | ((with_reducible refine KOb.mk ?_); kernel_rfl)
    | ((with_reducible intro h); (repeat (first | replace H := grd_k H | replace H := out_step H (by assumption))); first | replace H := cond_t h H | replace H := cond_f h H | exact absurd h (by decide) | skip)
    | ((with_reducible refine Ob.mk ?_); first | (with_reducible rfl) | (first | ((repeat (first | (with_reducible exact grd_p H) | (replace H := grd_k H) | (replace H := out_step H (by assumption)))); done) | rfl | ((repeat (first | exact grd_p H | replace H := grd_k H | replace H := out_step H (by assumption))); done) | ((repeat (first | exact grd_p H | (have hp := grd_p H; exact hp) | replace H := grd_k H | replace H := out_step H (by assumption) | (replace H := bind_some H; obtain ⟨_, _, H⟩ := H))); done) | (repeat (first | exact grd_p H | replace H := grd_k H | replace H := out_step H (by assumption)))))
    | (with_reducible exact True.intro)
    | constructor
    | ((conv => whnf); first
        | ((with_reducible refine Ob.mk ?_); first | (with_reducible rfl) | (first | ((repeat (first | (with_reducible exact grd_p H) | (replace H := grd_k H) | (replace H := out_step H (by assumption)))); done) | rfl | ((repeat (first | exact grd_p H | replace H := grd_k H | replace H := out_step H (by assumption))); done) | ((repeat (first | exact grd_p H | (have hp := grd_p H; exact hp) | replace H := grd_k H | replace H := out_step H (by assumption) | (replace H := bind_some H; obtain ⟨_, _, H⟩ := H))); done) | (repeat (first | exact grd_p H | replace H := grd_k H | replace H := out_step H (by assumption)))))
        | ((with_reducible refine CallW.mk ?_); (repeat (first | replace H := grd_k H | replace H := out_step H (by assumption))); replace H := bind_some H; obtain ⟨y, hy, H⟩ := H; first | ((with_reducible have hz : impl_readRecords _ = some y := hy); clear hz; refine Exists.intro _ (Exists.intro _ ⟨impl_readRecords.call hy ?_, rfl, rfl, ?_⟩)))
        | ((repeat (first | replace H := grd_k H | replace H := out_step H (by assumption))); refine loop_iter (G45_ok.at tok []) (ct := [(4, none), (3, some [1, 4, 5, 6, 31, 32, 33, 34, 35, 45, 46, 47, 48, 49, 55])]) (F := (fun s1 : Bool × Bool × Int × Int × (List LogRecord) × (List Int) => ⟨sl [(1, (.loc 0 0 0)), (5, (.own 1)), (7, (.bl s1.1)), (8, (.bl s1.2.1)), (37, (.own 2)), (38, (.v (.int .i64 s1.2.2.1))), (39, (.v (.int .i64 s1.2.2.2.1)))], [some (.box 34 [(.v (.string a0.1)), (.v (.string a0.2.1)), (.v (.int .i64 a0.2.2.1))]), some (.arr 89 ty_LogRecord s1.2.2.2.2.1), some (.arr 3 (.int .i64) s1.2.2.2.2.2)]⟩)) (step := (fun s : Bool × Bool × Int × Int × (List LogRecord) × (List Int) => impl_Log_records_loop1 _ s.1 s.2.1 s.2.2.1 s.2.2.2.1 s.2.2.2.2.1 s.2.2.2.2.2)) _ H (by kernel_rfl) (sub_auto ?_) ?_; rotate_left; (intro s1 r v hr H); rotate_right)
        | ((with_reducible refine cutAt (id := 4) ?_); (repeat (first | replace H := grd_k H | replace H := out_step H (by assumption))); first | (replace H := bind_some H; obtain ⟨z, hz, H⟩ := H; refine CutC.mk (id := 4) ⟨sl [(1, (.loc 0 0 0)), (5, (.own 1)), (6, (.own 2)), (7, (.bl z.1))], [some (.box 34 [(.v (.string a0.1)), (.v (.string a0.2.1)), (.v (.int .i64 a0.2.2.1))]), some (.arr 89 ty_LogRecord z.2.1), some (.arr 3 (.int .i64) z.2.2)]⟩ ?_ ?_; (replace H := hz)))
        | ((repeat (first | replace H := grd_k H | replace H := out_step H (by assumption))); have H := Option.some.inj H; subst H; with_reducible refine sub_auto ?_)
        | ((repeat (first | replace H := grd_k H | replace H := out_step H (by assumption))); refine again_step H (by assumption) (sub_auto ?_))
        | ((with_reducible refine fin_mk ?_); (repeat (first | replace H := grd_k H | replace H := out_step H (by assumption))); have H := Option.some.inj H; subst H))
def G46 : Env := G45.add 32 [] impl_Log_records.S
theorem G46_ok : EnvOk Tryd.prog G46 := G45_ok.add ent_32 fun ar h r h1 ⟨a0, y, hy, e1, e2, e3, e4⟩ => by
  subst e3 e4; exact (impl_Log_records.spec a0 y hy).le e1 e2
attribute [local irreducible] impl_Log_records

noncomputable def impl_IsValidLog (a0 : Log) : Option (Bool) :=
  ((impl_Log_records (a0.1, a0.2.1, a0.2.2.1, ())).bind fun y1 => (some y1.2))
def impl_IsValidLog.res (_ : Log) (y : Bool) : AV := (.bl y)
def impl_IsValidLog.out (_ : Log) (_ : Bool) : List (Option LB) := []
def impl_IsValidLog.S (ar : List AV) (h : List (Option LB)) (r : AV) (h1 : List (Option LB)) : Prop := ∃ a0 y, impl_IsValidLog a0 = some y ∧ leL ar [(.agg [(.v (.string a0.1)), (.v (.string a0.2.1)), (.v (.int .i64 a0.2.2.1))])] ∧ leH h [] ∧ r = impl_IsValidLog.res a0 y ∧ h1 = impl_IsValidLog.out a0 y
theorem impl_IsValidLog.call {ar : List AV} {h : List (Option LB)} {a0 : Log} {y : Bool} (H : impl_IsValidLog a0 = some y) (h0 : leLk ar [(.agg [(.v (.string a0.1)), (.v (.string a0.2.1)), (.v (.int .i64 a0.2.2.1))])] (leHk h [])) : impl_IsValidLog.S ar h (impl_IsValidLog.res a0 y) (impl_IsValidLog.out a0 y) := ⟨a0, y, H, (args_ok h0).1, (args_ok h0).2, rfl, rfl⟩
set_option maxHeartbeats 100000000 in
set_option maxRecDepth 100000 in
theorem impl_IsValidLog.spec (a0 : Log) (y : Bool) (H : impl_IsValidLog a0 = some y) : Spec Tryd.prog 18 [(.agg [(.v (.string a0.1)), (.v (.string a0.2.1)), (.v (.int .i64 a0.2.2.1))])] [] (impl_IsValidLog.res a0 y) (impl_IsValidLog.out a0 y) := by
  refine spec_intro (G46_ok.at tok []) (ct := []) Tryd.func18 rfl (by kernel_rfl) (by kernel_rfl) rfl ?_
  repeat' first
    | ((with_reducible refine eqg ?_); exact rfl)
    | ((with_reducible refine KOb.mk ?_); kernel_rfl)
    | ((with_reducible intro h); (repeat (first | replace H := grd_k H | replace H := out_step H (by assumption))); first | replace H := cond_t h H | replace H := cond_f h H | exact absurd h (by decide) | skip)
    | ((with_reducible refine Ob.mk ?_); first | (with_reducible rfl) | (first | ((repeat (first | (with_reducible exact grd_p H) | (replace H := grd_k H) | (replace H := out_step H (by assumption)))); done) | rfl | ((repeat (first | exact grd_p H | replace H := grd_k H | replace H := out_step H (by assumption))); done) | ((repeat (first | exact grd_p H | (have hp := grd_p H; exact hp) | replace H := grd_k H | replace H := out_step H (by assumption) | (replace H := bind_some H; obtain ⟨_, _, H⟩ := H))); done) | (repeat (first | exact grd_p H | replace H := grd_k H | replace H := out_step H (by assumption)))))
    | (with_reducible exact True.intro)
    | constructor
    | ((conv => whnf); first
        | ((with_reducible refine Ob.mk ?_); first | (with_reducible rfl) | (first | ((repeat (first | (with_reducible exact grd_p H) | (replace H := grd_k H) | (replace H := out_step H (by assumption)))); done) | rfl | ((repeat (first | exact grd_p H | replace H := grd_k H | replace H := out_step H (by assumption))); done) | ((repeat (first | exact grd_p H | (have hp := grd_p H; exact hp) | replace H := grd_k H | replace H := out_step H (by assumption) | (replace H := bind_some H; obtain ⟨_, _, H⟩ := H))); done) | (repeat (first | exact grd_p H | replace H := grd_k H | replace H := out_step H (by assumption)))))
        | ((with_reducible refine CallW.mk ?_); (repeat (first | replace H := grd_k H | replace H := out_step H (by assumption))); replace H := bind_some H; obtain ⟨y, hy, H⟩ := H; first | ((with_reducible have hz : impl_Log_records _ = some y := hy); clear hz; refine Exists.intro _ (Exists.intro _ ⟨impl_Log_records.call hy ?_, rfl, rfl, ?_⟩)))
        | ((with_reducible refine fin_mk ?_); (repeat (first | replace H := grd_k H | replace H := out_step H (by assumption))); have H := Option.some.inj H; subst H))
def G47 : Env := G46.add 18 [] impl_IsValidLog.S
theorem G47_ok : EnvOk Tryd.prog G47 := G46_ok.add ent_18 fun ar h r h1 ⟨a0, y, hy, e1, e2, e3, e4⟩ => by
  subst e3 e4; exact (impl_IsValidLog.spec a0 y hy).le e1 e2
attribute [local irreducible] impl_IsValidLog

noncomputable def impl_IsValidConsole (a0 : Console) : Option (Bool) :=
  ((impl_IsRopeway (a0.1.1, a0.1.2.1, a0.1.2.2.1, a0.1.2.2.2.1, a0.1.2.2.2.2.1, ())).bind fun y1 => (cond y1 ((impl_IsValidLog (a0.2.1.1, a0.2.1.2.1, a0.2.1.2.2.1, ())).bind fun y2 => (some y2)) ((some false))))
def impl_IsValidConsole.res (_ : Console) (y : Bool) : AV := (.bl y)
def impl_IsValidConsole.out (_ : Console) (_ : Bool) : List (Option LB) := []
def impl_IsValidConsole.S (ar : List AV) (h : List (Option LB)) (r : AV) (h1 : List (Option LB)) : Prop := ∃ a0 y, impl_IsValidConsole a0 = some y ∧ leL ar [(.agg [(.v (.int .i64 a0.1.1)), (.tree ty_Slot a0.1.2.1), (.v (.int .i64 a0.1.2.2.1)), (.v (.int .i64 a0.1.2.2.2.1)), (.v (.int .i64 a0.1.2.2.2.2.1)), (.v (.string a0.2.1.1)), (.v (.string a0.2.1.2.1)), (.v (.int .i64 a0.2.1.2.2.1))])] ∧ leH h [] ∧ r = impl_IsValidConsole.res a0 y ∧ h1 = impl_IsValidConsole.out a0 y
theorem impl_IsValidConsole.call {ar : List AV} {h : List (Option LB)} {a0 : Console} {y : Bool} (H : impl_IsValidConsole a0 = some y) (h0 : leLk ar [(.agg [(.v (.int .i64 a0.1.1)), (.tree ty_Slot a0.1.2.1), (.v (.int .i64 a0.1.2.2.1)), (.v (.int .i64 a0.1.2.2.2.1)), (.v (.int .i64 a0.1.2.2.2.2.1)), (.v (.string a0.2.1.1)), (.v (.string a0.2.1.2.1)), (.v (.int .i64 a0.2.1.2.2.1))])] (leHk h [])) : impl_IsValidConsole.S ar h (impl_IsValidConsole.res a0 y) (impl_IsValidConsole.out a0 y) := ⟨a0, y, H, (args_ok h0).1, (args_ok h0).2, rfl, rfl⟩
set_option maxHeartbeats 100000000 in
set_option maxRecDepth 100000 in
theorem impl_IsValidConsole.spec (a0 : Console) (y : Bool) (H : impl_IsValidConsole a0 = some y) : Spec Tryd.prog 8 [(.agg [(.v (.int .i64 a0.1.1)), (.tree ty_Slot a0.1.2.1), (.v (.int .i64 a0.1.2.2.1)), (.v (.int .i64 a0.1.2.2.2.1)), (.v (.int .i64 a0.1.2.2.2.2.1)), (.v (.string a0.2.1.1)), (.v (.string a0.2.1.2.1)), (.v (.int .i64 a0.2.1.2.2.1))])] [] (impl_IsValidConsole.res a0 y) (impl_IsValidConsole.out a0 y) := by
  refine spec_intro (G47_ok.at tok []) (ct := []) Tryd.func8 rfl (by kernel_rfl) (by kernel_rfl) rfl ?_
  repeat' first
    | ((with_reducible refine eqg ?_); exact rfl)
    | ((with_reducible refine KOb.mk ?_); kernel_rfl)
    | ((with_reducible intro h); (repeat (first | replace H := grd_k H | replace H := out_step H (by assumption))); first | replace H := cond_t h H | replace H := cond_f h H | exact absurd h (by decide) | skip)
    | ((with_reducible refine Ob.mk ?_); first | (with_reducible rfl) | (first | ((repeat (first | (with_reducible exact grd_p H) | (replace H := grd_k H) | (replace H := out_step H (by assumption)))); done) | rfl | ((repeat (first | exact grd_p H | replace H := grd_k H | replace H := out_step H (by assumption))); done) | ((repeat (first | exact grd_p H | (have hp := grd_p H; exact hp) | replace H := grd_k H | replace H := out_step H (by assumption) | (replace H := bind_some H; obtain ⟨_, _, H⟩ := H))); done) | (repeat (first | exact grd_p H | replace H := grd_k H | replace H := out_step H (by assumption)))))
    | (with_reducible exact True.intro)
    | constructor
    | ((conv => whnf); first
        | ((with_reducible refine Ob.mk ?_); first | (with_reducible rfl) | (first | ((repeat (first | (with_reducible exact grd_p H) | (replace H := grd_k H) | (replace H := out_step H (by assumption)))); done) | rfl | ((repeat (first | exact grd_p H | replace H := grd_k H | replace H := out_step H (by assumption))); done) | ((repeat (first | exact grd_p H | (have hp := grd_p H; exact hp) | replace H := grd_k H | replace H := out_step H (by assumption) | (replace H := bind_some H; obtain ⟨_, _, H⟩ := H))); done) | (repeat (first | exact grd_p H | replace H := grd_k H | replace H := out_step H (by assumption)))))
        | ((with_reducible refine CallW.mk ?_); (repeat (first | replace H := grd_k H | replace H := out_step H (by assumption))); replace H := bind_some H; obtain ⟨y, hy, H⟩ := H; first | ((with_reducible have hz : impl_IsRopeway _ = some y := hy); clear hz; refine Exists.intro _ (Exists.intro _ ⟨impl_IsRopeway.call hy ?_, rfl, rfl, ?_⟩)) | ((with_reducible have hz : impl_IsValidLog _ = some y := hy); clear hz; refine Exists.intro _ (Exists.intro _ ⟨impl_IsValidLog.call hy ?_, rfl, rfl, ?_⟩)))
        | ((with_reducible refine fin_mk ?_); (repeat (first | replace H := grd_k H | replace H := out_step H (by assumption))); have H := Option.some.inj H; subst H))
def G48 : Env := G47.add 8 [] impl_IsValidConsole.S
theorem G48_ok : EnvOk Tryd.prog G48 := G47_ok.add ent_8 fun ar h r h1 ⟨a0, y, hy, e1, e2, e3, e4⟩ => by
  subst e3 e4; exact (impl_IsValidConsole.spec a0 y hy).le e1 e2
attribute [local irreducible] impl_IsValidConsole

noncomputable def strings_Join (a0 : (List ByteArray)) (a1 : ByteArray) : Option (ByteArray) :=
  (grd ((joinB a0 a1).size ≤ 140737488355328) ((some (joinB a0 a1))))
def strings_Join.res (_ : (List ByteArray)) (_ : ByteArray) (y : ByteArray) : AV := (.v (.string y))
def strings_Join.out (_ : (List ByteArray)) (_ : ByteArray) (_ : ByteArray) : List (Option LB) := []
def strings_Join.S (ar : List AV) (h : List (Option LB)) (r : AV) (h1 : List (Option LB)) : Prop := ∃ a0 a1 y, strings_Join a0 a1 = some y ∧ leL ar [(.tree .str a0), (.v (.string a1))] ∧ leH h [] ∧ r = strings_Join.res a0 a1 y ∧ h1 = strings_Join.out a0 a1 y
theorem strings_Join.call {ar : List AV} {h : List (Option LB)} {a0 : (List ByteArray)} {a1 : ByteArray} {y : ByteArray} (H : strings_Join a0 a1 = some y) (h0 : leLk ar [(.tree .str a0), (.v (.string a1))] (leHk h [])) : strings_Join.S ar h (strings_Join.res a0 a1 y) (strings_Join.out a0 a1 y) := ⟨a0, a1, y, H, (args_ok h0).1, (args_ok h0).2, rfl, rfl⟩
theorem strings_Join.spec (a0 : (List ByteArray)) (a1 : ByteArray) (y : ByteArray) (H : strings_Join a0 a1 = some y) : Spec Tryd.prog 23 [(.tree .str a0), (.v (.string a1))] [] (strings_Join.res a0 a1 y) (strings_Join.out a0 a1 y) := by
  have hg := grd_p H
  have H := Option.some.inj (grd_k H)
  subst H
  exact ext_strings_Join a0 a1 hg
def G49 : Env := G48.add 23 [] strings_Join.S
theorem G49_ok : EnvOk Tryd.prog G49 := G48_ok.add ent_23 fun ar h r h1 ⟨a0, a1, y, hy, e1, e2, e3, e4⟩ => by
  subst e3 e4; exact (strings_Join.spec a0 a1 y hy).le e1 e2
attribute [local irreducible] strings_Join

end Go.Proofs.YtdlngdmdebpadaaDoor
