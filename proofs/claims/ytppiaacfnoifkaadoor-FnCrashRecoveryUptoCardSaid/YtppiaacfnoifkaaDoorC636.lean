/-
  Contracts, printed by a program.
-/
import Derived.Test.YtppiaacfnoifkaaDoorC635
namespace Go.Proofs.YtppiaacfnoifkaaDoor
open Go.RowKit
attribute [local irreducible] Ob loopwp Sub Spec Fin Again CallW CutC KOb iter joinx outm

attribute [local irreducible] laws_szLog laws_toLog spec_l1Split spec_l1Num spec_l1Num_f spec_l1In spec_l27Plain spec_l1Stands spec_l27Good spec_l1Sum spec_l1Seal spec_l27Line spec_l27Read spec_l27Open spec_l27Log spec_CrashLog strings_Cut strings_Contains impl_checksum strconv_Itoa impl_AppendChecksum impl_VerifyChecksum internal_stringslite_HasPrefix internal_stringslite_CutPrefix strings_CutPrefix impl_within strings_ContainsAny impl_isPlain impl_IsValidRecord impl_decodeRecord impl_readRecords

noncomputable def impl_Log_records_loop1 (a0 : Log) (v17 : Bool) (v18 : Bool) (v19 : Int) (v20 : Int) (v21 : (List LogRecord)) (v22 : (List Int)) : Option (Lp (Bool × Bool × Int × Int × (List LogRecord) × (List Int)) ((Bool × Bool × (List LogRecord)))) :=
  (cond (decide (v20 < v19)) (grd (0 ≤ v20 ∧ v20 < (v22.length : Int)) (cond v18 (some (.go (v17, true, v19, (w64 (v20 + (1 : Int))), v21, v22))) (some (.go (v17, (decide ((v22.getD v20.toNat 0) = (a0.1.size : Int))), v19, (w64 (v20 + (1 : Int))), v21, v22))))) ((some (.out (v17, v18, v21)))))
noncomputable def impl_Log_records (a0 : Log) : Option ((List LogRecord) × Bool) :=
  (grd (a0.1.size + a0.2.1.size ≤ 9223372036854775807) ((impl_readRecords (a0.1 ++ a0.2.1)).bind fun y1 => ((grd (0 ≤ (w64 ((y1.2.length : Int) - (1 : Int))) ∧ (w64 ((y1.2.length : Int) - (1 : Int))) < (y1.2.length : Int)) (cond (decide ((y1.2.getD ((w64 ((y1.2.length : Int) - (1 : Int))).toNat) 0) = ((a0.1 ++ a0.2.1).size : Int))) ((some ((decide (a0.2.2.1 = (y1.1.length : Int))), y1.1, y1.2))) ((some (false, y1.1, y1.2))))).bind fun z2 => ((iter (fun s => impl_Log_records_loop1 a0 s.1 s.2.1 s.2.2.1 s.2.2.2.1 s.2.2.2.2.1 s.2.2.2.2.2) (z2.1, false, (z2.2.2.length : Int), (0 : Int), z2.2.1, z2.2.2)).bind (fun r23 => (cond r23.1 ((some (r23.2.2, r23.2.1))) ((some (r23.2.2, false)))))))))
def impl_Log_records.res (_ : Log) (y : (List LogRecord) × Bool) : AV := (.tup [(.own 0), (.bl y.2)])
def impl_Log_records.out (_ : Log) (y : (List LogRecord) × Bool) : List (Option LB) := [some (.arr 39 ty_LogRecord y.1)]
def impl_Log_records.S (ar : List AV) (h : List (Option LB)) (r : AV) (h1 : List (Option LB)) : Prop := ∃ a0 y, impl_Log_records a0 = some y ∧ leL ar [(.agg [(.v (.string a0.1)), (.v (.string a0.2.1)), (.v (.int .i64 a0.2.2.1))])] ∧ leH h [] ∧ r = impl_Log_records.res a0 y ∧ h1 = impl_Log_records.out a0 y
theorem impl_Log_records.call {ar : List AV} {h : List (Option LB)} {a0 : Log} {y : (List LogRecord) × Bool} (H : impl_Log_records a0 = some y) (h0 : leLk ar [(.agg [(.v (.string a0.1)), (.v (.string a0.2.1)), (.v (.int .i64 a0.2.2.1))])] (leHk h [])) : impl_Log_records.S ar h (impl_Log_records.res a0 y) (impl_Log_records.out a0 y) := ⟨a0, y, H, (args_ok h0).1, (args_ok h0).2, rfl, rfl⟩
set_option maxHeartbeats 100000000 in
set_option maxRecDepth 100000 in
theorem impl_Log_records.spec (a0 : Log) (y : (List LogRecord) × Bool) (H : impl_Log_records a0 = some y) : Spec Tryd.prog 55 [(.agg [(.v (.string a0.1)), (.v (.string a0.2.1)), (.v (.int .i64 a0.2.2.1))])] [] (impl_Log_records.res a0 y) (impl_Log_records.out a0 y) := by
  refine spec_intro (G30_ok.at tok []) (ct := [(4, none), (3, some [1, 4, 5, 6, 31, 32, 33, 34, 35, 45, 46, 47, 48, 49, 55])]) Tryd.func55 rfl (by kernel_rfl) (by kernel_rfl) rfl ?_
  repeat' first
    | ((with_reducible refine eqg ?_); exact rfl)
    | ((with_reducible refine KOb.mk ?_); kernel_rfl)
    | ((with_reducible intro h); (repeat (first | replace H := grd_k H | replace H := out_step H (by assumption))); first | replace H := cond_t h H | replace H := cond_f h H | exact absurd h (by decide) | skip)
    | ((with_reducible refine Ob.mk ?_); first | (with_reducible rfl) | (first | ((repeat (first | (with_reducible exact grd_p H) | (replace H := grd_k H) | (replace H := out_step H (by assumption)))); done) | rfl | ((repeat (first | exact grd_p H | replace H := grd_k H | replace H := out_step H (by assumption))); done) | ((repeat (first | exact grd_p H | (have hp := grd_p H; exact hp) | replace H := grd_k H | replace H := out_step H (by assumption) | (replace H := bind_some H; obtain ⟨_, _, H⟩ := H))); done) | (repeat (first | exact grd_p H | replace H := grd_k H | replace H := out_step H (by assumption)))))
    | (with_reducible exact True.intro)
    | ((conv => whnf); first
        | (with_reducible refine And.intro ?_ ?_)
        | (with_reducible exact True.intro)
        | ((with_reducible refine Ob.mk ?_); first | (with_reducible rfl) | (first | ((repeat (first | (with_reducible exact grd_p H) | (replace H := grd_k H) | (replace H := out_step H (by assumption)))); done) | rfl | ((repeat (first | exact grd_p H | replace H := grd_k H | replace H := out_step H (by assumption))); done) | ((repeat (first | exact grd_p H | (have hp := grd_p H; exact hp) | replace H := grd_k H | replace H := out_step H (by assumption) | (replace H := bind_some H; obtain ⟨_, _, H⟩ := H))); done) | (repeat (first | exact grd_p H | replace H := grd_k H | replace H := out_step H (by assumption)))))
        | ((with_reducible refine CallW.mk ?_); (repeat (first | replace H := grd_k H | replace H := out_step H (by assumption))); replace H := bind_some H; obtain ⟨y, hy, H⟩ := H; first | ((with_reducible have hz : impl_readRecords _ = some y := hy); clear hz; refine Exists.intro _ (Exists.intro _ ⟨impl_readRecords.call hy ?_, rfl, rfl, ?_⟩)))
        | ((repeat (first | replace H := grd_k H | replace H := out_step H (by assumption))); refine loop_iter (G30_ok.at tok []) (ct := [(4, none), (3, some [1, 4, 5, 6, 31, 32, 33, 34, 35, 45, 46, 47, 48, 49, 55])]) (F := (fun s1 : Bool × Bool × Int × Int × (List LogRecord) × (List Int) => ⟨sl [(1, (.loc 0 0 0)), (5, (.own 1)), (7, (.bl s1.1)), (8, (.bl s1.2.1)), (37, (.own 2)), (38, (.v (.int .i64 s1.2.2.1))), (39, (.v (.int .i64 s1.2.2.2.1)))], [some (.box 27 [(.v (.string a0.1)), (.v (.string a0.2.1)), (.v (.int .i64 a0.2.2.1))]), some (.arr 39 ty_LogRecord s1.2.2.2.2.1), some (.arr 3 (.int .i64) s1.2.2.2.2.2)]⟩)) (step := (fun s : Bool × Bool × Int × Int × (List LogRecord) × (List Int) => impl_Log_records_loop1 _ s.1 s.2.1 s.2.2.1 s.2.2.2.1 s.2.2.2.2.1 s.2.2.2.2.2)) _ H (by kernel_rfl) (sub_auto ?_) ?_; rotate_left; (intro s1 r v hr H); rotate_right)
        | ((with_reducible refine cutAt (id := 4) ?_); (repeat (first | replace H := grd_k H | replace H := out_step H (by assumption))); first | (replace H := bind_some H; obtain ⟨z, hz, H⟩ := H; refine CutC.mk (id := 4) ⟨sl [(1, (.loc 0 0 0)), (5, (.own 1)), (6, (.own 2)), (7, (.bl z.1))], [some (.box 27 [(.v (.string a0.1)), (.v (.string a0.2.1)), (.v (.int .i64 a0.2.2.1))]), some (.arr 39 ty_LogRecord z.2.1), some (.arr 3 (.int .i64) z.2.2)]⟩ ?_ ?_; (replace H := hz)))
        | ((repeat (first | replace H := grd_k H | replace H := out_step H (by assumption))); have H := Option.some.inj H; subst H; with_reducible refine sub_auto ?_)
        | ((repeat (first | replace H := grd_k H | replace H := out_step H (by assumption))); refine again_step H (by assumption) (sub_auto ?_))
        | ((with_reducible refine fin_mk ?_); (repeat (first | replace H := grd_k H | replace H := out_step H (by assumption))); have H := Option.some.inj H; subst H))
    | constructor
def G31 : Env := G30.add 55 [] impl_Log_records.S
theorem G31_ok : EnvOk Tryd.prog G31 := G30_ok.add ent_55 fun ar h r h1 ⟨a0, y, hy, e1, e2, e3, e4⟩ => by
  subst e3 e4; exact (impl_Log_records.spec a0 y hy).le e1 e2
attribute [local irreducible] impl_Log_records

noncomputable def impl_IsValidLog (a0 : Log) : Option (Bool) :=
  ((impl_Log_records (a0.1, a0.2.1, a0.2.2.1, ())).bind fun y1 => (some y1.2))
def impl_IsValidLog.res (_ : Log) (y : Bool) : AV := (.bl y)
def impl_IsValidLog.out (_ : Log) (_ : Bool) : List (Option LB) := []
def impl_IsValidLog.S (ar : List AV) (h : List (Option LB)) (r : AV) (h1 : List (Option LB)) : Prop := ∃ a0 y, impl_IsValidLog a0 = some y ∧ leL ar [(.agg [(.v (.string a0.1)), (.v (.string a0.2.1)), (.v (.int .i64 a0.2.2.1))])] ∧ leH h [] ∧ r = impl_IsValidLog.res a0 y ∧ h1 = impl_IsValidLog.out a0 y
theorem impl_IsValidLog.call {ar : List AV} {h : List (Option LB)} {a0 : Log} {y : Bool} (H : impl_IsValidLog a0 = some y) (h0 : leLk ar [(.agg [(.v (.string a0.1)), (.v (.string a0.2.1)), (.v (.int .i64 a0.2.2.1))])] (leHk h [])) : impl_IsValidLog.S ar h (impl_IsValidLog.res a0 y) (impl_IsValidLog.out a0 y) := ⟨a0, y, H, (args_ok h0).1, (args_ok h0).2, rfl, rfl⟩
set_option maxHeartbeats 100000000 in
set_option maxRecDepth 100000 in
theorem impl_IsValidLog.spec (a0 : Log) (y : Bool) (H : impl_IsValidLog a0 = some y) : Spec Tryd.prog 17 [(.agg [(.v (.string a0.1)), (.v (.string a0.2.1)), (.v (.int .i64 a0.2.2.1))])] [] (impl_IsValidLog.res a0 y) (impl_IsValidLog.out a0 y) := by
  refine spec_intro (G31_ok.at tok []) (ct := []) Tryd.func17 rfl (by kernel_rfl) (by kernel_rfl) rfl ?_
  repeat' first
    | ((with_reducible refine eqg ?_); exact rfl)
    | ((with_reducible refine KOb.mk ?_); kernel_rfl)
    | ((with_reducible intro h); (repeat (first | replace H := grd_k H | replace H := out_step H (by assumption))); first | replace H := cond_t h H | replace H := cond_f h H | exact absurd h (by decide) | skip)
    | ((with_reducible refine Ob.mk ?_); first | (with_reducible rfl) | (first | ((repeat (first | (with_reducible exact grd_p H) | (replace H := grd_k H) | (replace H := out_step H (by assumption)))); done) | rfl | ((repeat (first | exact grd_p H | replace H := grd_k H | replace H := out_step H (by assumption))); done) | ((repeat (first | exact grd_p H | (have hp := grd_p H; exact hp) | replace H := grd_k H | replace H := out_step H (by assumption) | (replace H := bind_some H; obtain ⟨_, _, H⟩ := H))); done) | (repeat (first | exact grd_p H | replace H := grd_k H | replace H := out_step H (by assumption)))))
    | (with_reducible exact True.intro)
    | ((conv => whnf); first
        | (with_reducible refine And.intro ?_ ?_)
        | (with_reducible exact True.intro)
        | ((with_reducible refine Ob.mk ?_); first | (with_reducible rfl) | (first | ((repeat (first | (with_reducible exact grd_p H) | (replace H := grd_k H) | (replace H := out_step H (by assumption)))); done) | rfl | ((repeat (first | exact grd_p H | replace H := grd_k H | replace H := out_step H (by assumption))); done) | ((repeat (first | exact grd_p H | (have hp := grd_p H; exact hp) | replace H := grd_k H | replace H := out_step H (by assumption) | (replace H := bind_some H; obtain ⟨_, _, H⟩ := H))); done) | (repeat (first | exact grd_p H | replace H := grd_k H | replace H := out_step H (by assumption)))))
        | ((with_reducible refine CallW.mk ?_); (repeat (first | replace H := grd_k H | replace H := out_step H (by assumption))); replace H := bind_some H; obtain ⟨y, hy, H⟩ := H; first | ((with_reducible have hz : impl_Log_records _ = some y := hy); clear hz; refine Exists.intro _ (Exists.intro _ ⟨impl_Log_records.call hy ?_, rfl, rfl, ?_⟩)))
        | ((with_reducible refine fin_mk ?_); (repeat (first | replace H := grd_k H | replace H := out_step H (by assumption))); have H := Option.some.inj H; subst H))
    | constructor
def G32 : Env := G31.add 17 [] impl_IsValidLog.S
theorem G32_ok : EnvOk Tryd.prog G32 := G31_ok.add ent_17 fun ar h r h1 ⟨a0, y, hy, e1, e2, e3, e4⟩ => by
  subst e3 e4; exact (impl_IsValidLog.spec a0 y hy).le e1 e2
attribute [local irreducible] impl_IsValidLog

noncomputable def impl_CrashLog (a0 : Log) (a1 : Int) (a2 : Bool) : Option (ByteArray × Bool) :=
  ((impl_IsValidLog (a0.1, a0.2.1, a0.2.2.1, ())).bind fun y1 => (cond (!y1) ((some ((ByteArray.mk #[]), false))) ((impl_within a1 (0 : Int) (a0.2.1.size : Int)).bind fun y2 => (cond (!y2) ((some ((ByteArray.mk #[]), false))) (grd (0 ≤ (0 : Int) ∧ (0 : Int) ≤ a1 ∧ a1 ≤ (a0.2.1.size : Int)) (grd (a0.1.size + (bsub a0.2.1 (0 : Int) a1).size ≤ 9223372036854775807) (grd ((a0.1 ++ (bsub a0.2.1 (0 : Int) a1)).size ≤ 140737488355328) (cond a2 (cond (decide ((0 : Int) < a1)) (grd (0 ≤ (w64 (((mkRow (a0.1 ++ (bsub a0.2.1 (0 : Int) a1))).length : Int) - (1 : Int))) ∧ (w64 (((mkRow (a0.1 ++ (bsub a0.2.1 (0 : Int) a1))).length : Int) - (1 : Int))) < ((mkRow (a0.1 ++ (bsub a0.2.1 (0 : Int) a1))).length : Int)) (grd (0 ≤ (w64 (((mkRow (a0.1 ++ (bsub a0.2.1 (0 : Int) a1))).length : Int) - (1 : Int))) ∧ (w64 (((mkRow (a0.1 ++ (bsub a0.2.1 (0 : Int) a1))).length : Int) - (1 : Int))) < ((mkRow (a0.1 ++ (bsub a0.2.1 (0 : Int) a1))).length : Int)) ((some ((strOfN (byteNs ((mkRow (a0.1 ++ (bsub a0.2.1 (0 : Int) a1))).set ((w64 (((mkRow (a0.1 ++ (bsub a0.2.1 (0 : Int) a1))).length : Int) - (1 : Int))).toNat) ((wu8 ((255 : Int) - (((mkRow (a0.1 ++ (bsub a0.2.1 (0 : Int) a1))).getD ((w64 (((mkRow (a0.1 ++ (bsub a0.2.1 (0 : Int) a1))).length : Int) - (1 : Int))).toNat) d_mbyte).1))), ())))), true))))) ((some ((strOfN (byteNs (mkRow (a0.1 ++ (bsub a0.2.1 (0 : Int) a1))))), true)))) ((some ((strOfN (byteNs (mkRow (a0.1 ++ (bsub a0.2.1 (0 : Int) a1))))), true)))))))))))
def impl_CrashLog.res (_ : Log) (_ : Int) (_ : Bool) (y : ByteArray × Bool) : AV := (.tup [(.v (.string y.1)), (.bl y.2)])
def impl_CrashLog.out (_ : Log) (_ : Int) (_ : Bool) (_ : ByteArray × Bool) : List (Option LB) := []
def impl_CrashLog.S (ar : List AV) (h : List (Option LB)) (r : AV) (h1 : List (Option LB)) : Prop := ∃ a0 a1 a2 y, impl_CrashLog a0 a1 a2 = some y ∧ leL ar [(.agg [(.v (.string a0.1)), (.v (.string a0.2.1)), (.v (.int .i64 a0.2.2.1))]), (.v (.int .i64 a1)), (.bl a2)] ∧ leH h [] ∧ r = impl_CrashLog.res a0 a1 a2 y ∧ h1 = impl_CrashLog.out a0 a1 a2 y
theorem impl_CrashLog.call {ar : List AV} {h : List (Option LB)} {a0 : Log} {a1 : Int} {a2 : Bool} {y : ByteArray × Bool} (H : impl_CrashLog a0 a1 a2 = some y) (h0 : leLk ar [(.agg [(.v (.string a0.1)), (.v (.string a0.2.1)), (.v (.int .i64 a0.2.2.1))]), (.v (.int .i64 a1)), (.bl a2)] (leHk h [])) : impl_CrashLog.S ar h (impl_CrashLog.res a0 a1 a2 y) (impl_CrashLog.out a0 a1 a2 y) := ⟨a0, a1, a2, y, H, (args_ok h0).1, (args_ok h0).2, rfl, rfl⟩
set_option maxHeartbeats 100000000 in
set_option maxRecDepth 100000 in
theorem impl_CrashLog.spec (a0 : Log) (a1 : Int) (a2 : Bool) (y : ByteArray × Bool) (H : impl_CrashLog a0 a1 a2 = some y) : Spec Tryd.prog 11 [(.agg [(.v (.string a0.1)), (.v (.string a0.2.1)), (.v (.int .i64 a0.2.2.1))]), (.v (.int .i64 a1)), (.bl a2)] [] (impl_CrashLog.res a0 a1 a2 y) (impl_CrashLog.out a0 a1 a2 y) := by
  refine spec_intro (G32_ok.at tok []) (ct := [(2, some [1, 2, 3, 19, 30, 31]), (5, some [8, 32])]) Tryd.func11 rfl (by kernel_rfl) (by kernel_rfl) rfl ?_
  repeat' first
    | ((with_reducible refine eqg ?_); exact rfl)
    | ((with_reducible refine KOb.mk ?_); kernel_rfl)
    | ((with_reducible intro h); (repeat (first | replace H := grd_k H | replace H := out_step H (by assumption))); first | replace H := cond_t h H | replace H := cond_f h H | exact absurd h (by decide) | skip)
    | ((with_reducible refine Ob.mk ?_); first | (with_reducible rfl) | (first | ((repeat (first | (with_reducible exact grd_p H) | (replace H := grd_k H) | (replace H := out_step H (by assumption)))); done) | rfl | ((repeat (first | exact grd_p H | replace H := grd_k H | replace H := out_step H (by assumption))); done) | ((repeat (first | exact grd_p H | (have hp := grd_p H; exact hp) | replace H := grd_k H | replace H := out_step H (by assumption) | (replace H := bind_some H; obtain ⟨_, _, H⟩ := H))); done) | (repeat (first | exact grd_p H | replace H := grd_k H | replace H := out_step H (by assumption)))))
    | (with_reducible exact True.intro)
    | ((conv => whnf); first
        | (with_reducible refine And.intro ?_ ?_)
        | (with_reducible exact True.intro)
        | ((with_reducible refine Ob.mk ?_); first | (with_reducible rfl) | (first | ((repeat (first | (with_reducible exact grd_p H) | (replace H := grd_k H) | (replace H := out_step H (by assumption)))); done) | rfl | ((repeat (first | exact grd_p H | replace H := grd_k H | replace H := out_step H (by assumption))); done) | ((repeat (first | exact grd_p H | (have hp := grd_p H; exact hp) | replace H := grd_k H | replace H := out_step H (by assumption) | (replace H := bind_some H; obtain ⟨_, _, H⟩ := H))); done) | (repeat (first | exact grd_p H | replace H := grd_k H | replace H := out_step H (by assumption)))))
        | ((with_reducible refine CallW.mk ?_); (repeat (first | replace H := grd_k H | replace H := out_step H (by assumption))); replace H := bind_some H; obtain ⟨y, hy, H⟩ := H; first | ((with_reducible have hz : impl_IsValidLog _ = some y := hy); clear hz; refine Exists.intro _ (Exists.intro _ ⟨impl_IsValidLog.call hy ?_, rfl, rfl, ?_⟩)) | ((with_reducible have hz : impl_within _ _ _ = some y := hy); clear hz; refine Exists.intro _ (Exists.intro _ ⟨impl_within.call hy ?_, rfl, rfl, ?_⟩)))
        | ((with_reducible refine fin_mk ?_); (repeat (first | replace H := grd_k H | replace H := out_step H (by assumption))); have H := Option.some.inj H; subst H))
    | constructor
def G33 : Env := G32.add 11 [] impl_CrashLog.S
theorem G33_ok : EnvOk Tryd.prog G33 := G32_ok.add ent_11 fun ar h r h1 ⟨a0, a1, a2, y, hy, e1, e2, e3, e4⟩ => by
  subst e3 e4; exact (impl_CrashLog.spec a0 a1 a2 y hy).le e1 e2
attribute [local irreducible] impl_CrashLog

noncomputable def laws_FnExactCrashLog (a0 : Log) (a1 : Int) (a2 : Bool) : Option (Bool) :=
  ((laws_szLog (a0.1, a0.2.1, a0.2.2.1, ()) (1048576 : Int)).bind fun y1 => (cond (decide (y1 < (0 : Int))) ((some true)) ((laws_toLog (a0.1, a0.2.1, a0.2.2.1, ())).bind fun y2 => ((spec_CrashLog (y2.1, y2.2.1, y2.2.2.1, ()) a1 a2).bind fun y3 => ((laws_toLog (a0.1, a0.2.1, a0.2.2.1, ())).bind fun y4 => ((impl_CrashLog (y4.1, y4.2.1, y4.2.2.1, ()) a1 a2).bind fun y5 => (cond (!decide (y5.1 = y3.1)) ((some false)) (cond (!(y5.2 == y3.2)) ((some false)) ((some true))))))))))
def laws_FnExactCrashLog.res (_ : Log) (_ : Int) (_ : Bool) (y : Bool) : AV := (.bl y)
def laws_FnExactCrashLog.out (_ : Log) (_ : Int) (_ : Bool) (_ : Bool) : List (Option LB) := []
def laws_FnExactCrashLog.S (ar : List AV) (h : List (Option LB)) (r : AV) (h1 : List (Option LB)) : Prop := ∃ a0 a1 a2 y, laws_FnExactCrashLog a0 a1 a2 = some y ∧ leL ar [(.agg [(.v (.string a0.1)), (.v (.string a0.2.1)), (.v (.int .i64 a0.2.2.1))]), (.v (.int .i64 a1)), (.bl a2)] ∧ leH h [] ∧ r = laws_FnExactCrashLog.res a0 a1 a2 y ∧ h1 = laws_FnExactCrashLog.out a0 a1 a2 y
theorem laws_FnExactCrashLog.call {ar : List AV} {h : List (Option LB)} {a0 : Log} {a1 : Int} {a2 : Bool} {y : Bool} (H : laws_FnExactCrashLog a0 a1 a2 = some y) (h0 : leLk ar [(.agg [(.v (.string a0.1)), (.v (.string a0.2.1)), (.v (.int .i64 a0.2.2.1))]), (.v (.int .i64 a1)), (.bl a2)] (leHk h [])) : laws_FnExactCrashLog.S ar h (laws_FnExactCrashLog.res a0 a1 a2 y) (laws_FnExactCrashLog.out a0 a1 a2 y) := ⟨a0, a1, a2, y, H, (args_ok h0).1, (args_ok h0).2, rfl, rfl⟩
set_option maxHeartbeats 100000000 in
set_option maxRecDepth 100000 in
theorem laws_FnExactCrashLog.spec (a0 : Log) (a1 : Int) (a2 : Bool) (y : Bool) (H : laws_FnExactCrashLog a0 a1 a2 = some y) : Spec Tryd.prog 3 [(.agg [(.v (.string a0.1)), (.v (.string a0.2.1)), (.v (.int .i64 a0.2.2.1))]), (.v (.int .i64 a1)), (.bl a2)] [] (laws_FnExactCrashLog.res a0 a1 a2 y) (laws_FnExactCrashLog.out a0 a1 a2 y) := by
  refine spec_intro (G33_ok.at tok []) (ct := [(6, some [1, 2, 3, 8, 9, 37, 38, 39]), (8, some [40])]) Tryd.func3 rfl (by kernel_rfl) (by kernel_rfl) rfl ?_
  repeat' first
    | ((with_reducible refine eqg ?_); exact rfl)
    | ((with_reducible refine KOb.mk ?_); kernel_rfl)
    | ((with_reducible intro h); (repeat (first | replace H := grd_k H | replace H := out_step H (by assumption))); first | replace H := cond_t h H | replace H := cond_f h H | exact absurd h (by decide) | skip)
    | ((with_reducible refine Ob.mk ?_); first | (with_reducible rfl) | (first | ((repeat (first | (with_reducible exact grd_p H) | (replace H := grd_k H) | (replace H := out_step H (by assumption)))); done) | rfl | ((repeat (first | exact grd_p H | replace H := grd_k H | replace H := out_step H (by assumption))); done) | ((repeat (first | exact grd_p H | (have hp := grd_p H; exact hp) | replace H := grd_k H | replace H := out_step H (by assumption) | (replace H := bind_some H; obtain ⟨_, _, H⟩ := H))); done) | (repeat (first | exact grd_p H | replace H := grd_k H | replace H := out_step H (by assumption)))))
    | (with_reducible exact True.intro)
    | ((conv => whnf); first
        | (with_reducible refine And.intro ?_ ?_)
        | (with_reducible exact True.intro)
        | ((with_reducible refine Ob.mk ?_); first | (with_reducible rfl) | (first | ((repeat (first | (with_reducible exact grd_p H) | (replace H := grd_k H) | (replace H := out_step H (by assumption)))); done) | rfl | ((repeat (first | exact grd_p H | replace H := grd_k H | replace H := out_step H (by assumption))); done) | ((repeat (first | exact grd_p H | (have hp := grd_p H; exact hp) | replace H := grd_k H | replace H := out_step H (by assumption) | (replace H := bind_some H; obtain ⟨_, _, H⟩ := H))); done) | (repeat (first | exact grd_p H | replace H := grd_k H | replace H := out_step H (by assumption)))))
        | ((with_reducible refine CallW.mk ?_); (repeat (first | replace H := grd_k H | replace H := out_step H (by assumption))); replace H := bind_some H; obtain ⟨y, hy, H⟩ := H; first | ((with_reducible have hz : laws_szLog _ _ = some y := hy); clear hz; refine Exists.intro _ (Exists.intro _ ⟨laws_szLog.call hy ?_, rfl, rfl, ?_⟩)) | ((with_reducible have hz : laws_toLog _ = some y := hy); clear hz; refine Exists.intro _ (Exists.intro _ ⟨laws_toLog.call hy ?_, rfl, rfl, ?_⟩)) | ((with_reducible have hz : spec_CrashLog _ _ _ = some y := hy); clear hz; refine Exists.intro _ (Exists.intro _ ⟨spec_CrashLog.call hy ?_, rfl, rfl, ?_⟩)) | ((with_reducible have hz : impl_CrashLog _ _ _ = some y := hy); clear hz; refine Exists.intro _ (Exists.intro _ ⟨impl_CrashLog.call hy ?_, rfl, rfl, ?_⟩)))
        | ((with_reducible refine fin_mk ?_); (repeat (first | replace H := grd_k H | replace H := out_step H (by assumption))); have H := Option.some.inj H; subst H))
    | constructor
def G34 : Env := G33.add 3 [] laws_FnExactCrashLog.S
theorem G34_ok : EnvOk Tryd.prog G34 := G33_ok.add ent_3 fun ar h r h1 ⟨a0, a1, a2, y, hy, e1, e2, e3, e4⟩ => by
  subst e3 e4; exact (laws_FnExactCrashLog.spec a0 a1 a2 y hy).le e1 e2
attribute [local irreducible] laws_FnExactCrashLog

noncomputable def laws_vBig (a0 : (List Int)) : Option (Bool) :=
  (some (decide ((65536 : Int) < (a0.length : Int))))
def laws_vBig.res (_ : (List Int)) (y : Bool) : AV := (.bl y)
def laws_vBig.out (_ : (List Int)) (_ : Bool) : List (Option LB) := []
def laws_vBig.S (ar : List AV) (h : List (Option LB)) (r : AV) (h1 : List (Option LB)) : Prop := ∃ a0 y, laws_vBig a0 = some y ∧ leL ar [(.tree (.int .u8) a0)] ∧ leH h [] ∧ r = laws_vBig.res a0 y ∧ h1 = laws_vBig.out a0 y
theorem laws_vBig.call {ar : List AV} {h : List (Option LB)} {a0 : (List Int)} {y : Bool} (H : laws_vBig a0 = some y) (h0 : leLk ar [(.tree (.int .u8) a0)] (leHk h [])) : laws_vBig.S ar h (laws_vBig.res a0 y) (laws_vBig.out a0 y) := ⟨a0, y, H, (args_ok h0).1, (args_ok h0).2, rfl, rfl⟩
set_option maxHeartbeats 100000000 in
set_option maxRecDepth 100000 in
theorem laws_vBig.spec (a0 : (List Int)) (y : Bool) (H : laws_vBig a0 = some y) : Spec Tryd.prog 12 [(.tree (.int .u8) a0)] [] (laws_vBig.res a0 y) (laws_vBig.out a0 y) := by
  refine spec_intro (G34_ok.at tok []) (ct := []) Tryd.func12 rfl (by kernel_rfl) (by kernel_rfl) rfl ?_
  repeat' first
    | ((with_reducible refine eqg ?_); exact rfl)
    | ((with_reducible refine KOb.mk ?_); kernel_rfl)
    | ((with_reducible intro h); (repeat (first | replace H := grd_k H | replace H := out_step H (by assumption))); first | replace H := cond_t h H | replace H := cond_f h H | exact absurd h (by decide) | skip)
    | ((with_reducible refine Ob.mk ?_); first | (with_reducible rfl) | (first | ((repeat (first | (with_reducible exact grd_p H) | (replace H := grd_k H) | (replace H := out_step H (by assumption)))); done) | rfl | ((repeat (first | exact grd_p H | replace H := grd_k H | replace H := out_step H (by assumption))); done) | ((repeat (first | exact grd_p H | (have hp := grd_p H; exact hp) | replace H := grd_k H | replace H := out_step H (by assumption) | (replace H := bind_some H; obtain ⟨_, _, H⟩ := H))); done) | (repeat (first | exact grd_p H | replace H := grd_k H | replace H := out_step H (by assumption)))))
    | (with_reducible exact True.intro)
    | ((conv => whnf); first
        | (with_reducible refine And.intro ?_ ?_)
        | (with_reducible exact True.intro)
        | ((with_reducible refine Ob.mk ?_); first | (with_reducible rfl) | (first | ((repeat (first | (with_reducible exact grd_p H) | (replace H := grd_k H) | (replace H := out_step H (by assumption)))); done) | rfl | ((repeat (first | exact grd_p H | replace H := grd_k H | replace H := out_step H (by assumption))); done) | ((repeat (first | exact grd_p H | (have hp := grd_p H; exact hp) | replace H := grd_k H | replace H := out_step H (by assumption) | (replace H := bind_some H; obtain ⟨_, _, H⟩ := H))); done) | (repeat (first | exact grd_p H | replace H := grd_k H | replace H := out_step H (by assumption)))))
        | ((with_reducible refine fin_mk ?_); (repeat (first | replace H := grd_k H | replace H := out_step H (by assumption))); have H := Option.some.inj H; subst H))
    | constructor
def G35 : Env := G34.add 12 [] laws_vBig.S
theorem G35_ok : EnvOk Tryd.prog G35 := G34_ok.add ent_12 fun ar h r h1 ⟨a0, y, hy, e1, e2, e3, e4⟩ => by
  subst e3 e4; exact (laws_vBig.spec a0 y hy).le e1 e2
attribute [local irreducible] laws_vBig

noncomputable def spec_l1Cur_next (a0 : l1Cur) : Option (Int × l1Cur) :=
  ((cond (decide (a0.2.1 < (a0.1.length : Int))) (grd (0 ≤ a0.2.1 ∧ a0.2.1 < (a0.1.length : Int)) ((some (w64 (a0.1.getD a0.2.1.toNat 0))))) ((some (0 : Int)))).bind fun z1 => (cond (decide ((w64 (a0.2.1 + (1 : Int))) ≤ (a0.1.length : Int))) ((some (z1, (a0.1, (w64 (a0.2.1 + (1 : Int))), (wu64 ((wu64 ((wu64 (a0.2.2.1 * (6364136223846793005 : Int))) + (wu64 z1))) + (935935 : Int))), ())))) (grd (0 ≤ (40 : Int)) ((some ((w64 (wu64 ((BitVec.ofInt (IntKind.u64).bits (Int.fdiv (wu64 ((wu64 ((wu64 (a0.2.2.1 * (6364136223846793005 : Int))) + (wu64 z1))) + (935935 : Int))) (2 ^ min (40 : Int).toNat (IntKind.u64).bits)) &&& BitVec.ofInt (IntKind.u64).bits (255 : Int)).toNat))), (a0.1, (w64 (a0.2.1 + (1 : Int))), (wu64 ((wu64 ((wu64 (a0.2.2.1 * (6364136223846793005 : Int))) + (wu64 z1))) + (935935 : Int))), ())))))))
def spec_l1Cur_next.res (_ : l1Cur) (y : Int × l1Cur) : AV := (.v (.int .i64 y.1))
def spec_l1Cur_next.out (_ : l1Cur) (y : Int × l1Cur) : List (Option LB) := [some (.box 81 [(.tree (.int .u8) y.2.1), (.v (.int .i64 y.2.2.1)), (.v (.int .u64 y.2.2.2.1))])]
def spec_l1Cur_next.S (ar : List AV) (h : List (Option LB)) (r : AV) (h1 : List (Option LB)) : Prop := ∃ a0 y, spec_l1Cur_next a0 = some y ∧ leL ar [(.loc 0 0 0)] ∧ leH h [some (.box 81 [(.tree (.int .u8) a0.1), (.v (.int .i64 a0.2.1)), (.v (.int .u64 a0.2.2.1))])] ∧ r = spec_l1Cur_next.res a0 y ∧ h1 = spec_l1Cur_next.out a0 y
theorem spec_l1Cur_next.call {ar : List AV} {h : List (Option LB)} {a0 : l1Cur} {y : Int × l1Cur} (H : spec_l1Cur_next a0 = some y) (h0 : leLk ar [(.loc 0 0 0)] (leHk h [some (.box 81 [(.tree (.int .u8) a0.1), (.v (.int .i64 a0.2.1)), (.v (.int .u64 a0.2.2.1))])])) : spec_l1Cur_next.S ar h (spec_l1Cur_next.res a0 y) (spec_l1Cur_next.out a0 y) := ⟨a0, y, H, (args_ok h0).1, (args_ok h0).2, rfl, rfl⟩
set_option maxHeartbeats 100000000 in
set_option maxRecDepth 100000 in
theorem spec_l1Cur_next.spec (a0 : l1Cur) (y : Int × l1Cur) (H : spec_l1Cur_next a0 = some y) : Spec Tryd.prog 98 [(.loc 0 0 0)] [some (.box 81 [(.tree (.int .u8) a0.1), (.v (.int .i64 a0.2.1)), (.v (.int .u64 a0.2.2.1))])] (spec_l1Cur_next.res a0 y) (spec_l1Cur_next.out a0 y) := by
  refine spec_intro (G35_ok.at tok []) (ct := [(4, none), (6, some [0, 3])]) Tryd.func98 rfl (by kernel_rfl) (by kernel_rfl) rfl ?_
  repeat' first
    | ((with_reducible refine eqg ?_); exact rfl)
    | ((with_reducible refine KOb.mk ?_); kernel_rfl)
    | ((with_reducible intro h); (repeat (first | replace H := grd_k H | replace H := out_step H (by assumption))); first | replace H := cond_t h H | replace H := cond_f h H | exact absurd h (by decide) | skip)
    | ((with_reducible refine Ob.mk ?_); first | (with_reducible rfl) | (first | ((repeat (first | (with_reducible exact grd_p H) | (replace H := grd_k H) | (replace H := out_step H (by assumption)))); done) | rfl | ((repeat (first | exact grd_p H | replace H := grd_k H | replace H := out_step H (by assumption))); done) | ((repeat (first | exact grd_p H | (have hp := grd_p H; exact hp) | replace H := grd_k H | replace H := out_step H (by assumption) | (replace H := bind_some H; obtain ⟨_, _, H⟩ := H))); done) | (repeat (first | exact grd_p H | replace H := grd_k H | replace H := out_step H (by assumption)))))
    | (with_reducible exact True.intro)
    | ((conv => whnf); first
        | (with_reducible refine And.intro ?_ ?_)
        | (with_reducible exact True.intro)
        | ((with_reducible refine Ob.mk ?_); first | (with_reducible rfl) | (first | ((repeat (first | (with_reducible exact grd_p H) | (replace H := grd_k H) | (replace H := out_step H (by assumption)))); done) | rfl | ((repeat (first | exact grd_p H | replace H := grd_k H | replace H := out_step H (by assumption))); done) | ((repeat (first | exact grd_p H | (have hp := grd_p H; exact hp) | replace H := grd_k H | replace H := out_step H (by assumption) | (replace H := bind_some H; obtain ⟨_, _, H⟩ := H))); done) | (repeat (first | exact grd_p H | replace H := grd_k H | replace H := out_step H (by assumption)))))
        | ((with_reducible refine cutAt (id := 4) ?_); (repeat (first | replace H := grd_k H | replace H := out_step H (by assumption))); first | (replace H := bind_some H; obtain ⟨z, hz, H⟩ := H; refine CutC.mk (id := 4) ⟨sl [(0, (.loc 0 0 0)), (3, (.v (.int .i64 z)))], [some (.box 81 [(.tree (.int .u8) a0.1), (.v (.int .i64 a0.2.1)), (.v (.int .u64 a0.2.2.1))])]⟩ ?_ ?_; (replace H := hz)))
        | ((repeat (first | replace H := grd_k H | replace H := out_step H (by assumption))); have H := Option.some.inj H; subst H; with_reducible refine sub_auto ?_)
        | ((with_reducible refine fin_mk ?_); (repeat (first | replace H := grd_k H | replace H := out_step H (by assumption))); have H := Option.some.inj H; subst H))
    | constructor
def G36 : Env := G35.add 98 [true] spec_l1Cur_next.S
theorem G36_ok : EnvOk Tryd.prog G36 := G35_ok.add ent_98 fun ar h r h1 ⟨a0, y, hy, e1, e2, e3, e4⟩ => by
  subst e3 e4; exact (spec_l1Cur_next.spec a0 y hy).le e1 e2
attribute [local irreducible] spec_l1Cur_next

end Go.Proofs.YtppiaacfnoifkaaDoor
