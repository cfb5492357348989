/-
  Contracts, printed by a program.
-/
import Derived.Test.YtppiaacfnoifkaaDoorC637
namespace Go.Proofs.YtppiaacfnoifkaaDoor
open Go.RowKit
attribute [local irreducible] Ob loopwp Sub Spec Fin Again CallW CutC KOb iter joinx outm

attribute [local irreducible] laws_szLog laws_toLog spec_l1Split spec_l1Num spec_l1Num_f spec_l1In spec_l27Plain spec_l1Stands spec_l27Good spec_l1Sum spec_l1Seal spec_l27Line spec_l27Read spec_l27Open spec_l27Log spec_CrashLog strings_Cut strings_Contains impl_checksum strconv_Itoa impl_AppendChecksum impl_VerifyChecksum internal_stringslite_HasPrefix internal_stringslite_CutPrefix strings_CutPrefix impl_within strings_ContainsAny impl_isPlain impl_IsValidRecord impl_decodeRecord impl_readRecords impl_Log_records impl_IsValidLog impl_CrashLog laws_FnExactCrashLog laws_vBig spec_l1Cur_next spec_l1Cur_pick spec_l1Cur_of spec_l1Cur_logRecord spec_AppendRecord spec_l1Cur_one spec_SyncLog

noncomputable def spec_l1Cur_log_loop1  (v23 : Int) (v24 : (List Int)) (v25 : Int) (v26 : Int) (v27 : ByteArray) (v28 : ByteArray) (v29 : Int) : Option (Lp (Int × (List Int) × Int × Int × ByteArray × ByteArray × Int) (((List Int) × Int × Int × ByteArray × ByteArray × Int))) :=
  (cond (decide ((0 : Int) < v23)) (((spec_l1Cur_logRecord (v24, v25, v26, ())).bind fun y30 => ((spec_AppendRecord (v27, v28, v29, ()) (y30.1.1, y30.1.2.1, ())).bind fun y31 => (some ((Tg.mk : Tg 3), y30.2.1, y30.2.2.1, y30.2.2.2.1, y31.1.1, y31.1.2.1, y31.1.2.2.1)))).bind fun z32 => ((spec_l1Cur_one (z32.2.1, z32.2.2.1, z32.2.2.2.1, ()) (4 : Int)).bind fun y33 => (cond y33.1 ((spec_SyncLog (z32.2.2.2.2.1, z32.2.2.2.2.2.1, z32.2.2.2.2.2.2, ())).bind fun y34 => (some (.go ((w64 (v23 - (1 : Int))), y33.2.1, y33.2.2.1, y33.2.2.2.1, y34.1.1, y34.1.2.1, y34.1.2.2.1)))) (some (.go ((w64 (v23 - (1 : Int))), y33.2.1, y33.2.2.1, y33.2.2.2.1, z32.2.2.2.2.1, z32.2.2.2.2.2.1, z32.2.2.2.2.2.2)))))) ((some (.out (v24, v25, v26, v27, v28, v29)))))
noncomputable def spec_l1Cur_log (a0 : l1Cur) : Option (Log × l1Cur) :=
  ((spec_l1Cur_pick (a0.1, a0.2.1, a0.2.2.1, ()) (7 : Int)).bind fun y1 => ((iter (fun s => spec_l1Cur_log_loop1 s.1 s.2.1 s.2.2.1 s.2.2.2.1 s.2.2.2.2.1 s.2.2.2.2.2.1 s.2.2.2.2.2.2) (y1.1, y1.2.1, y1.2.2.1, y1.2.2.2.1, (ByteArray.mk #[]), (ByteArray.mk #[]), (0 : Int))).bind (fun r35 => (some ((r35.2.2.2.1, r35.2.2.2.2.1, r35.2.2.2.2.2, ()), (r35.1, r35.2.1, r35.2.2.1, ()))))))
def spec_l1Cur_log.res (_ : l1Cur) (y : Log × l1Cur) : AV := (.agg [(.v (.string y.1.1)), (.v (.string y.1.2.1)), (.v (.int .i64 y.1.2.2.1))])
def spec_l1Cur_log.out (_ : l1Cur) (y : Log × l1Cur) : List (Option LB) := [some (.box 81 [(.tree (.int .u8) y.2.1), (.v (.int .i64 y.2.2.1)), (.v (.int .u64 y.2.2.2.1))])]
def spec_l1Cur_log.S (ar : List AV) (h : List (Option LB)) (r : AV) (h1 : List (Option LB)) : Prop := ∃ a0 y, spec_l1Cur_log a0 = some y ∧ leL ar [(.loc 0 0 0)] ∧ leH h [some (.box 81 [(.tree (.int .u8) a0.1), (.v (.int .i64 a0.2.1)), (.v (.int .u64 a0.2.2.1))])] ∧ r = spec_l1Cur_log.res a0 y ∧ h1 = spec_l1Cur_log.out a0 y
theorem spec_l1Cur_log.call {ar : List AV} {h : List (Option LB)} {a0 : l1Cur} {y : Log × l1Cur} (H : spec_l1Cur_log a0 = some y) (h0 : leLk ar [(.loc 0 0 0)] (leHk h [some (.box 81 [(.tree (.int .u8) a0.1), (.v (.int .i64 a0.2.1)), (.v (.int .u64 a0.2.2.1))])])) : spec_l1Cur_log.S ar h (spec_l1Cur_log.res a0 y) (spec_l1Cur_log.out a0 y) := ⟨a0, y, H, (args_ok h0).1, (args_ok h0).2, rfl, rfl⟩
set_option maxHeartbeats 100000000 in
set_option maxRecDepth 100000 in
theorem spec_l1Cur_log.spec (a0 : l1Cur) (y : Log × l1Cur) (H : spec_l1Cur_log a0 = some y) : Spec Tryd.prog 97 [(.loc 0 0 0)] [some (.box 81 [(.tree (.int .u8) a0.1), (.v (.int .i64 a0.2.1)), (.v (.int .u64 a0.2.2.1))])] (spec_l1Cur_log.res a0 y) (spec_l1Cur_log.out a0 y) := by
  refine spec_intro (G42_ok.at tok []) (ct := [(6, none)]) Tryd.func97 rfl (by kernel_rfl) (by kernel_rfl) rfl ?_
  repeat' first
    | ((with_reducible refine eqg ?_); exact rfl)
    | ((with_reducible refine KOb.mk ?_); kernel_rfl)
    | ((with_reducible intro h); (repeat (first | replace H := grd_k H | replace H := out_step H (by assumption))); first | replace H := cond_t h H | replace H := cond_f h H | exact absurd h (by decide) | skip)
    | ((with_reducible refine Ob.mk ?_); first | (with_reducible rfl) | (first | ((repeat (first | (with_reducible exact grd_p H) | (replace H := grd_k H) | (replace H := out_step H (by assumption)))); done) | rfl | ((repeat (first | exact grd_p H | replace H := grd_k H | replace H := out_step H (by assumption))); done) | ((repeat (first | exact grd_p H | (have hp := grd_p H; exact hp) | replace H := grd_k H | replace H := out_step H (by assumption) | (replace H := bind_some H; obtain ⟨_, _, H⟩ := H))); done) | (repeat (first | exact grd_p H | replace H := grd_k H | replace H := out_step H (by assumption)))))
    | (with_reducible exact True.intro)
    | ((conv => whnf); first
        | (with_reducible refine And.intro ?_ ?_)
        | (with_reducible exact True.intro)
        | ((with_reducible refine Ob.mk ?_); first | (with_reducible rfl) | (first | ((repeat (first | (with_reducible exact grd_p H) | (replace H := grd_k H) | (replace H := out_step H (by assumption)))); done) | rfl | ((repeat (first | exact grd_p H | replace H := grd_k H | replace H := out_step H (by assumption))); done) | ((repeat (first | exact grd_p H | (have hp := grd_p H; exact hp) | replace H := grd_k H | replace H := out_step H (by assumption) | (replace H := bind_some H; obtain ⟨_, _, H⟩ := H))); done) | (repeat (first | exact grd_p H | replace H := grd_k H | replace H := out_step H (by assumption)))))
        | ((with_reducible refine CallW.mk ?_); (repeat (first | replace H := grd_k H | replace H := out_step H (by assumption))); replace H := bind_some H; obtain ⟨y, hy, H⟩ := H; first | ((with_reducible have hz : spec_l1Cur_pick _ _ = some y := hy); clear hz; refine Exists.intro _ (Exists.intro _ ⟨spec_l1Cur_pick.call hy ?_, rfl, rfl, ?_⟩)) | ((with_reducible have hz : spec_l1Cur_logRecord _ = some y := hy); clear hz; refine Exists.intro _ (Exists.intro _ ⟨spec_l1Cur_logRecord.call hy ?_, rfl, rfl, ?_⟩)) | ((with_reducible have hz : spec_AppendRecord _ _ = some y := hy); clear hz; refine Exists.intro _ (Exists.intro _ ⟨spec_AppendRecord.call hy ?_, rfl, rfl, ?_⟩)) | ((with_reducible have hz : spec_l1Cur_one _ _ = some y := hy); clear hz; refine Exists.intro _ (Exists.intro _ ⟨spec_l1Cur_one.call hy ?_, rfl, rfl, ?_⟩)) | ((with_reducible have hz : spec_SyncLog _ = some y := hy); clear hz; refine Exists.intro _ (Exists.intro _ ⟨spec_SyncLog.call hy ?_, rfl, rfl, ?_⟩)))
        | ((repeat (first | replace H := grd_k H | replace H := out_step H (by assumption))); refine loop_iter (G42_ok.at tok []) (ct := [(6, none)]) (F := (fun s1 : Int × (List Int) × Int × Int × ByteArray × ByteArray × Int => ⟨sl [(0, (.loc 0 0 0)), (2, (.loc 1 0 0)), (3, (.loc 2 0 0)), (4, (.v (.int .i64 s1.1)))], [some (.box 81 [(.tree (.int .u8) s1.2.1), (.v (.int .i64 s1.2.2.1)), (.v (.int .u64 s1.2.2.2.1))]), some (.box 27 [(.v (.string (ByteArray.mk #[]))), (.v (.string (ByteArray.mk #[]))), (.v (.int .i64 (0 : Int)))]), some (.box 27 [(.v (.string s1.2.2.2.2.1)), (.v (.string s1.2.2.2.2.2.1)), (.v (.int .i64 s1.2.2.2.2.2.2))])]⟩)) (step := (fun s : Int × (List Int) × Int × Int × ByteArray × ByteArray × Int => spec_l1Cur_log_loop1 s.1 s.2.1 s.2.2.1 s.2.2.2.1 s.2.2.2.2.1 s.2.2.2.2.2.1 s.2.2.2.2.2.2)) _ H (by kernel_rfl) (sub_auto ?_) ?_; rotate_left; (intro s1 r v hr H); rotate_right)
        | ((with_reducible refine cutAt (id := 6) ?_); (repeat (first | replace H := grd_k H | replace H := out_step H (by assumption))); first | (replace H := bind_some H; obtain ⟨z, hz, H⟩ := H; have hT : Tg 3 × (List Int) × Int × Int × ByteArray × ByteArray × Int := z; clear hT; refine CutC.mk (id := 6) ⟨sl [(0, (.loc 0 0 0)), (2, (.loc 1 0 0)), (3, (.loc 2 0 0)), (4, (.v (.int .i64 s1.1)))], [some (.box 81 [(.tree (.int .u8) z.2.1), (.v (.int .i64 z.2.2.1)), (.v (.int .u64 z.2.2.2.1))]), some (.box 27 [(.v (.string (ByteArray.mk #[]))), (.v (.string (ByteArray.mk #[]))), (.v (.int .i64 (0 : Int)))]), some (.box 27 [(.v (.string z.2.2.2.2.1)), (.v (.string z.2.2.2.2.2.1)), (.v (.int .i64 z.2.2.2.2.2.2))])]⟩ ?_ ?_; (replace H := hz)))
        | ((repeat (first | replace H := grd_k H | replace H := out_step H (by assumption))); have H := Option.some.inj H; subst H; with_reducible refine sub_auto ?_)
        | ((repeat (first | replace H := grd_k H | replace H := out_step H (by assumption))); refine again_step H (by assumption) (sub_auto ?_))
        | ((with_reducible refine fin_mk ?_); (repeat (first | replace H := grd_k H | replace H := out_step H (by assumption))); have H := Option.some.inj H; subst H))
    | constructor
def G43 : Env := G42.add 97 [true] spec_l1Cur_log.S
theorem G43_ok : EnvOk Tryd.prog G43 := G42_ok.add ent_97 fun ar h r h1 ⟨a0, y, hy, e1, e2, e3, e4⟩ => by
  subst e3 e4; exact (spec_l1Cur_log.spec a0 y hy).le e1 e2
attribute [local irreducible] spec_l1Cur_log

noncomputable def spec_l1Cur_spoilt (a0 : l1Cur) (a1 : ByteArray) (a2 : ByteArray) : Option (ByteArray × l1Cur) :=
  (cond (decide (a1 = (ByteArray.mk #[]))) (grd (0 ≤ (0 : Int) ∧ (0 : Int) ≤ (1 : Int) ∧ (1 : Int) ≤ (a2.size : Int)) ((some ((bsub a2 (0 : Int) (1 : Int)), (a0.1, a0.2.1, a0.2.2.1, ()))))) ((spec_l1Cur_pick (a0.1, a0.2.1, a0.2.2.1, ()) (a1.size : Int)).bind fun y1 => ((spec_l1Cur_pick (y1.2.1, y1.2.2.1, y1.2.2.2.1, ()) (a2.size : Int)).bind fun y2 => (grd (0 ≤ y2.1 ∧ y2.1 ≤ (a2.size : Int) ∧ (a2.size : Int) ≤ (a2.size : Int)) (grd (0 ≤ (0 : Int) ∧ (0 : Int) ≤ (1 : Int) ∧ (1 : Int) ≤ ((bsub a2 y2.1 (a2.size : Int)).size : Int)) ((spec_l1Cur_pick (y2.2.1, y2.2.2.1, y2.2.2.2.1, ()) (3 : Int)).bind fun y3 => (cond (decide (y3.1 = (0 : Int))) (grd (0 ≤ (0 : Int) ∧ (0 : Int) ≤ y1.1 ∧ y1.1 ≤ (a1.size : Int)) (grd ((bsub a1 (0 : Int) y1.1).size + (bsub (bsub a2 y2.1 (a2.size : Int)) (0 : Int) (1 : Int)).size ≤ 9223372036854775807) (grd (0 ≤ y1.1 ∧ y1.1 ≤ (a1.size : Int) ∧ (a1.size : Int) ≤ (a1.size : Int)) (grd (((bsub a1 (0 : Int) y1.1) ++ (bsub (bsub a2 y2.1 (a2.size : Int)) (0 : Int) (1 : Int))).size + (bsub a1 y1.1 (a1.size : Int)).size ≤ 9223372036854775807) ((some ((((bsub a1 (0 : Int) y1.1) ++ (bsub (bsub a2 y2.1 (a2.size : Int)) (0 : Int) (1 : Int))) ++ (bsub a1 y1.1 (a1.size : Int))), (y3.2.1, y3.2.2.1, y3.2.2.2.1, ())))))))) (cond (decide (y3.1 = (1 : Int))) (grd (0 ≤ (0 : Int) ∧ (0 : Int) ≤ y1.1 ∧ y1.1 ≤ (a1.size : Int)) (grd ((bsub a1 (0 : Int) y1.1).size + (bsub (bsub a2 y2.1 (a2.size : Int)) (0 : Int) (1 : Int)).size ≤ 9223372036854775807) (grd (0 ≤ (w64 (y1.1 + (1 : Int))) ∧ (w64 (y1.1 + (1 : Int))) ≤ (a1.size : Int) ∧ (a1.size : Int) ≤ (a1.size : Int)) (grd (((bsub a1 (0 : Int) y1.1) ++ (bsub (bsub a2 y2.1 (a2.size : Int)) (0 : Int) (1 : Int))).size + (bsub a1 (w64 (y1.1 + (1 : Int))) (a1.size : Int)).size ≤ 9223372036854775807) ((some ((((bsub a1 (0 : Int) y1.1) ++ (bsub (bsub a2 y2.1 (a2.size : Int)) (0 : Int) (1 : Int))) ++ (bsub a1 (w64 (y1.1 + (1 : Int))) (a1.size : Int))), (y3.2.1, y3.2.2.1, y3.2.2.2.1, ())))))))) (grd (0 ≤ (0 : Int) ∧ (0 : Int) ≤ y1.1 ∧ y1.1 ≤ (a1.size : Int)) (grd (0 ≤ (w64 (y1.1 + (1 : Int))) ∧ (w64 (y1.1 + (1 : Int))) ≤ (a1.size : Int) ∧ (a1.size : Int) ≤ (a1.size : Int)) (grd ((bsub a1 (0 : Int) y1.1).size + (bsub a1 (w64 (y1.1 + (1 : Int))) (a1.size : Int)).size ≤ 9223372036854775807) ((some (((bsub a1 (0 : Int) y1.1) ++ (bsub a1 (w64 (y1.1 + (1 : Int))) (a1.size : Int))), (y3.2.1, y3.2.2.1, y3.2.2.2.1, ())))))))))))))))
def spec_l1Cur_spoilt.res (_ : l1Cur) (_ : ByteArray) (_ : ByteArray) (y : ByteArray × l1Cur) : AV := (.v (.string y.1))
def spec_l1Cur_spoilt.out (_ : l1Cur) (_ : ByteArray) (_ : ByteArray) (y : ByteArray × l1Cur) : List (Option LB) := [some (.box 81 [(.tree (.int .u8) y.2.1), (.v (.int .i64 y.2.2.1)), (.v (.int .u64 y.2.2.2.1))])]
def spec_l1Cur_spoilt.S (ar : List AV) (h : List (Option LB)) (r : AV) (h1 : List (Option LB)) : Prop := ∃ a0 a1 a2 y, spec_l1Cur_spoilt a0 a1 a2 = some y ∧ leL ar [(.loc 0 0 0), (.v (.string a1)), (.v (.string a2))] ∧ leH h [some (.box 81 [(.tree (.int .u8) a0.1), (.v (.int .i64 a0.2.1)), (.v (.int .u64 a0.2.2.1))])] ∧ r = spec_l1Cur_spoilt.res a0 a1 a2 y ∧ h1 = spec_l1Cur_spoilt.out a0 a1 a2 y
theorem spec_l1Cur_spoilt.call {ar : List AV} {h : List (Option LB)} {a0 : l1Cur} {a1 : ByteArray} {a2 : ByteArray} {y : ByteArray × l1Cur} (H : spec_l1Cur_spoilt a0 a1 a2 = some y) (h0 : leLk ar [(.loc 0 0 0), (.v (.string a1)), (.v (.string a2))] (leHk h [some (.box 81 [(.tree (.int .u8) a0.1), (.v (.int .i64 a0.2.1)), (.v (.int .u64 a0.2.2.1))])])) : spec_l1Cur_spoilt.S ar h (spec_l1Cur_spoilt.res a0 a1 a2 y) (spec_l1Cur_spoilt.out a0 a1 a2 y) := ⟨a0, a1, a2, y, H, (args_ok h0).1, (args_ok h0).2, rfl, rfl⟩
set_option maxHeartbeats 100000000 in
set_option maxRecDepth 100000 in
theorem spec_l1Cur_spoilt.spec (a0 : l1Cur) (a1 : ByteArray) (a2 : ByteArray) (y : ByteArray × l1Cur) (H : spec_l1Cur_spoilt a0 a1 a2 = some y) : Spec Tryd.prog 93 [(.loc 0 0 0), (.v (.string a1)), (.v (.string a2))] [some (.box 81 [(.tree (.int .u8) a0.1), (.v (.int .i64 a0.2.1)), (.v (.int .u64 a0.2.2.1))])] (spec_l1Cur_spoilt.res a0 a1 a2 y) (spec_l1Cur_spoilt.out a0 a1 a2 y) := by
  refine spec_intro (G43_ok.at tok []) (ct := [(5, some [0, 1, 7, 8]), (10, some [1, 7])]) Tryd.func93 rfl (by kernel_rfl) (by kernel_rfl) rfl ?_
  repeat' first
    | ((with_reducible refine eqg ?_); exact rfl)
    | ((with_reducible refine KOb.mk ?_); kernel_rfl)
    | ((with_reducible intro h); (repeat (first | replace H := grd_k H | replace H := out_step H (by assumption))); first | replace H := cond_t h H | replace H := cond_f h H | exact absurd h (by decide) | skip)
    | ((with_reducible refine Ob.mk ?_); first | (with_reducible rfl) | (first | ((repeat (first | (with_reducible exact grd_p H) | (replace H := grd_k H) | (replace H := out_step H (by assumption)))); done) | rfl | ((repeat (first | exact grd_p H | replace H := grd_k H | replace H := out_step H (by assumption))); done) | ((repeat (first | exact grd_p H | (have hp := grd_p H; exact hp) | replace H := grd_k H | replace H := out_step H (by assumption) | (replace H := bind_some H; obtain ⟨_, _, H⟩ := H))); done) | (repeat (first | exact grd_p H | replace H := grd_k H | replace H := out_step H (by assumption)))))
    | (with_reducible exact True.intro)
    | ((conv => whnf); first
        | (with_reducible refine And.intro ?_ ?_)
        | (with_reducible exact True.intro)
        | ((with_reducible refine Ob.mk ?_); first | (with_reducible rfl) | (first | ((repeat (first | (with_reducible exact grd_p H) | (replace H := grd_k H) | (replace H := out_step H (by assumption)))); done) | rfl | ((repeat (first | exact grd_p H | replace H := grd_k H | replace H := out_step H (by assumption))); done) | ((repeat (first | exact grd_p H | (have hp := grd_p H; exact hp) | replace H := grd_k H | replace H := out_step H (by assumption) | (replace H := bind_some H; obtain ⟨_, _, H⟩ := H))); done) | (repeat (first | exact grd_p H | replace H := grd_k H | replace H := out_step H (by assumption)))))
        | ((with_reducible refine CallW.mk ?_); (repeat (first | replace H := grd_k H | replace H := out_step H (by assumption))); replace H := bind_some H; obtain ⟨y, hy, H⟩ := H; first | ((with_reducible have hz : spec_l1Cur_pick _ _ = some y := hy); clear hz; refine Exists.intro _ (Exists.intro _ ⟨spec_l1Cur_pick.call hy ?_, rfl, rfl, ?_⟩)))
        | ((with_reducible refine fin_mk ?_); (repeat (first | replace H := grd_k H | replace H := out_step H (by assumption))); have H := Option.some.inj H; subst H))
    | constructor
def G44 : Env := G43.add 93 [true] spec_l1Cur_spoilt.S
theorem G44_ok : EnvOk Tryd.prog G44 := G43_ok.add ent_93 fun ar h r h1 ⟨a0, a1, a2, y, hy, e1, e2, e3, e4⟩ => by
  subst e3 e4; exact (spec_l1Cur_spoilt.spec a0 a1 a2 y hy).le e1 e2
attribute [local irreducible] spec_l1Cur_spoilt

noncomputable def spec_l1Cur_anyLog (a0 : l1Cur) : Option (Log × l1Cur) :=
  ((spec_l1Cur_log (a0.1, a0.2.1, a0.2.2.1, ())).bind fun y1 => ((spec_l1Cur_pick (y1.2.1, y1.2.2.1, y1.2.2.2.1, ()) (24 : Int)).bind fun y2 => (cond (decide (y2.1 = (0 : Int))) ((some ((y1.1.1, y1.1.2.1, (w64 (y1.1.2.2.1 + (1 : Int))), ()), (y2.2.1, y2.2.2.1, y2.2.2.2.1, ())))) (cond (decide (y2.1 = (1 : Int))) ((spec_l1Cur_spoilt (y2.2.1, y2.2.2.1, y2.2.2.2.1, ()) y1.1.2.1 (ByteArray.mk #[35, 64, 10, 48, 49])).bind fun y3 => (some ((y1.1.1, y3.1, y1.1.2.2.1, ()), (y3.2.1, y3.2.2.1, y3.2.2.2.1, ())))) (cond (decide (y2.1 = (2 : Int))) (grd (y1.1.1.size + y1.1.2.1.size ≤ 9223372036854775807) ((some (((y1.1.1 ++ y1.1.2.1), y1.1.2.1, y1.1.2.2.1, ()), (y2.2.1, y2.2.2.1, y2.2.2.2.1, ()))))) ((some ((y1.1.1, y1.1.2.1, y1.1.2.2.1, ()), (y2.2.1, y2.2.2.1, y2.2.2.2.1, ())))))))))
def spec_l1Cur_anyLog.res (_ : l1Cur) (y : Log × l1Cur) : AV := (.agg [(.v (.string y.1.1)), (.v (.string y.1.2.1)), (.v (.int .i64 y.1.2.2.1))])
def spec_l1Cur_anyLog.out (_ : l1Cur) (y : Log × l1Cur) : List (Option LB) := [some (.box 81 [(.tree (.int .u8) y.2.1), (.v (.int .i64 y.2.2.1)), (.v (.int .u64 y.2.2.2.1))])]
def spec_l1Cur_anyLog.S (ar : List AV) (h : List (Option LB)) (r : AV) (h1 : List (Option LB)) : Prop := ∃ a0 y, spec_l1Cur_anyLog a0 = some y ∧ leL ar [(.loc 0 0 0)] ∧ leH h [some (.box 81 [(.tree (.int .u8) a0.1), (.v (.int .i64 a0.2.1)), (.v (.int .u64 a0.2.2.1))])] ∧ r = spec_l1Cur_anyLog.res a0 y ∧ h1 = spec_l1Cur_anyLog.out a0 y
theorem spec_l1Cur_anyLog.call {ar : List AV} {h : List (Option LB)} {a0 : l1Cur} {y : Log × l1Cur} (H : spec_l1Cur_anyLog a0 = some y) (h0 : leLk ar [(.loc 0 0 0)] (leHk h [some (.box 81 [(.tree (.int .u8) a0.1), (.v (.int .i64 a0.2.1)), (.v (.int .u64 a0.2.2.1))])])) : spec_l1Cur_anyLog.S ar h (spec_l1Cur_anyLog.res a0 y) (spec_l1Cur_anyLog.out a0 y) := ⟨a0, y, H, (args_ok h0).1, (args_ok h0).2, rfl, rfl⟩
set_option maxHeartbeats 100000000 in
set_option maxRecDepth 100000 in
theorem spec_l1Cur_anyLog.spec (a0 : l1Cur) (y : Log × l1Cur) (H : spec_l1Cur_anyLog a0 = some y) : Spec Tryd.prog 51 [(.loc 0 0 0)] [some (.box 81 [(.tree (.int .u8) a0.1), (.v (.int .i64 a0.2.1)), (.v (.int .u64 a0.2.2.1))])] (spec_l1Cur_anyLog.res a0 y) (spec_l1Cur_anyLog.out a0 y) := by
  refine spec_intro (G44_ok.at tok []) (ct := [(9, some [2, 3])]) Tryd.func51 rfl (by kernel_rfl) (by kernel_rfl) rfl ?_
  repeat' first
    | ((with_reducible refine eqg ?_); exact rfl)
    | ((with_reducible refine KOb.mk ?_); kernel_rfl)
    | ((with_reducible intro h); (repeat (first | replace H := grd_k H | replace H := out_step H (by assumption))); first | replace H := cond_t h H | replace H := cond_f h H | exact absurd h (by decide) | skip)
    | ((with_reducible refine Ob.mk ?_); first | (with_reducible rfl) | (first | ((repeat (first | (with_reducible exact grd_p H) | (replace H := grd_k H) | (replace H := out_step H (by assumption)))); done) | rfl | ((repeat (first | exact grd_p H | replace H := grd_k H | replace H := out_step H (by assumption))); done) | ((repeat (first | exact grd_p H | (have hp := grd_p H; exact hp) | replace H := grd_k H | replace H := out_step H (by assumption) | (replace H := bind_some H; obtain ⟨_, _, H⟩ := H))); done) | (repeat (first | exact grd_p H | replace H := grd_k H | replace H := out_step H (by assumption)))))
    | (with_reducible exact True.intro)
    | ((conv => whnf); first
        | (with_reducible refine And.intro ?_ ?_)
        | (with_reducible exact True.intro)
        | ((with_reducible refine Ob.mk ?_); first | (with_reducible rfl) | (first | ((repeat (first | (with_reducible exact grd_p H) | (replace H := grd_k H) | (replace H := out_step H (by assumption)))); done) | rfl | ((repeat (first | exact grd_p H | replace H := grd_k H | replace H := out_step H (by assumption))); done) | ((repeat (first | exact grd_p H | (have hp := grd_p H; exact hp) | replace H := grd_k H | replace H := out_step H (by assumption) | (replace H := bind_some H; obtain ⟨_, _, H⟩ := H))); done) | (repeat (first | exact grd_p H | replace H := grd_k H | replace H := out_step H (by assumption)))))
        | ((with_reducible refine CallW.mk ?_); (repeat (first | replace H := grd_k H | replace H := out_step H (by assumption))); replace H := bind_some H; obtain ⟨y, hy, H⟩ := H; first | ((with_reducible have hz : spec_l1Cur_log _ = some y := hy); clear hz; refine Exists.intro _ (Exists.intro _ ⟨spec_l1Cur_log.call hy ?_, rfl, rfl, ?_⟩)) | ((with_reducible have hz : spec_l1Cur_pick _ _ = some y := hy); clear hz; refine Exists.intro _ (Exists.intro _ ⟨spec_l1Cur_pick.call hy ?_, rfl, rfl, ?_⟩)) | ((with_reducible have hz : spec_l1Cur_spoilt _ _ _ = some y := hy); clear hz; refine Exists.intro _ (Exists.intro _ ⟨spec_l1Cur_spoilt.call hy ?_, rfl, rfl, ?_⟩)))
        | ((with_reducible refine fin_mk ?_); (repeat (first | replace H := grd_k H | replace H := out_step H (by assumption))); have H := Option.some.inj H; subst H))
    | constructor
def G45 : Env := G44.add 51 [true] spec_l1Cur_anyLog.S
theorem G45_ok : EnvOk Tryd.prog G45 := G44_ok.add ent_51 fun ar h r h1 ⟨a0, y, hy, e1, e2, e3, e4⟩ => by
  subst e3 e4; exact (spec_l1Cur_anyLog.spec a0 y hy).le e1 e2
attribute [local irreducible] spec_l1Cur_anyLog

noncomputable def spec_DrawCrashLog (a0 : (List Int)) : Option (Log × Int × Bool) :=
  ((spec_l1Cur_anyLog (a0, (0 : Int), (0 : Int), ())).bind fun y1 => ((spec_l1Cur_pick (y1.2.1, y1.2.2.1, y1.2.2.2.1, ()) (w64 ((y1.1.2.1.size : Int) + (3 : Int)))).bind fun y2 => ((spec_l1Cur_one (y2.2.1, y2.2.2.1, y2.2.2.2.1, ()) (2 : Int)).bind fun y3 => (some ((y1.1.1, y1.1.2.1, y1.1.2.2.1, ()), (w64 (y2.1 - (1 : Int))), y3.1)))))
def spec_DrawCrashLog.res (_ : (List Int)) (y : Log × Int × Bool) : AV := (.tup [(.agg [(.v (.string y.1.1)), (.v (.string y.1.2.1)), (.v (.int .i64 y.1.2.2.1))]), (.v (.int .i64 y.2.1)), (.bl y.2.2)])
def spec_DrawCrashLog.out (_ : (List Int)) (_ : Log × Int × Bool) : List (Option LB) := []
def spec_DrawCrashLog.S (ar : List AV) (h : List (Option LB)) (r : AV) (h1 : List (Option LB)) : Prop := ∃ a0 y, spec_DrawCrashLog a0 = some y ∧ leL ar [(.tree (.int .u8) a0)] ∧ leH h [] ∧ r = spec_DrawCrashLog.res a0 y ∧ h1 = spec_DrawCrashLog.out a0 y
theorem spec_DrawCrashLog.call {ar : List AV} {h : List (Option LB)} {a0 : (List Int)} {y : Log × Int × Bool} (H : spec_DrawCrashLog a0 = some y) (h0 : leLk ar [(.tree (.int .u8) a0)] (leHk h [])) : spec_DrawCrashLog.S ar h (spec_DrawCrashLog.res a0 y) (spec_DrawCrashLog.out a0 y) := ⟨a0, y, H, (args_ok h0).1, (args_ok h0).2, rfl, rfl⟩
set_option maxHeartbeats 100000000 in
set_option maxRecDepth 100000 in
theorem spec_DrawCrashLog.spec (a0 : (List Int)) (y : Log × Int × Bool) (H : spec_DrawCrashLog a0 = some y) : Spec Tryd.prog 13 [(.tree (.int .u8) a0)] [] (spec_DrawCrashLog.res a0 y) (spec_DrawCrashLog.out a0 y) := by
  refine spec_intro (G45_ok.at tok []) (ct := [(4, some [2, 5, 6, 7])]) Tryd.func13 rfl (by kernel_rfl) (by kernel_rfl) rfl ?_
  repeat' first
    | ((with_reducible refine eqg ?_); exact rfl)
    | ((with_reducible refine KOb.mk ?_); kernel_rfl)
    | ((with_reducible intro h); (repeat (first | replace H := grd_k H | replace H := out_step H (by assumption))); first | replace H := cond_t h H | replace H := cond_f h H | exact absurd h (by decide) | skip)
    | ((with_reducible refine Ob.mk ?_); first | (with_reducible rfl) | (first | ((repeat (first | (with_reducible exact grd_p H) | (replace H := grd_k H) | (replace H := out_step H (by assumption)))); done) | rfl | ((repeat (first | exact grd_p H | replace H := grd_k H | replace H := out_step H (by assumption))); done) | ((repeat (first | exact grd_p H | (have hp := grd_p H; exact hp) | replace H := grd_k H | replace H := out_step H (by assumption) | (replace H := bind_some H; obtain ⟨_, _, H⟩ := H))); done) | (repeat (first | exact grd_p H | replace H := grd_k H | replace H := out_step H (by assumption)))))
    | (with_reducible exact True.intro)
    | ((conv => whnf); first
        | (with_reducible refine And.intro ?_ ?_)
        | (with_reducible exact True.intro)
        | ((with_reducible refine Ob.mk ?_); first | (with_reducible rfl) | (first | ((repeat (first | (with_reducible exact grd_p H) | (replace H := grd_k H) | (replace H := out_step H (by assumption)))); done) | rfl | ((repeat (first | exact grd_p H | replace H := grd_k H | replace H := out_step H (by assumption))); done) | ((repeat (first | exact grd_p H | (have hp := grd_p H; exact hp) | replace H := grd_k H | replace H := out_step H (by assumption) | (replace H := bind_some H; obtain ⟨_, _, H⟩ := H))); done) | (repeat (first | exact grd_p H | replace H := grd_k H | replace H := out_step H (by assumption)))))
        | ((with_reducible refine CallW.mk ?_); (repeat (first | replace H := grd_k H | replace H := out_step H (by assumption))); replace H := bind_some H; obtain ⟨y, hy, H⟩ := H; first | ((with_reducible have hz : spec_l1Cur_anyLog _ = some y := hy); clear hz; refine Exists.intro _ (Exists.intro _ ⟨spec_l1Cur_anyLog.call hy ?_, rfl, rfl, ?_⟩)) | ((with_reducible have hz : spec_l1Cur_pick _ _ = some y := hy); clear hz; refine Exists.intro _ (Exists.intro _ ⟨spec_l1Cur_pick.call hy ?_, rfl, rfl, ?_⟩)) | ((with_reducible have hz : spec_l1Cur_one _ _ = some y := hy); clear hz; refine Exists.intro _ (Exists.intro _ ⟨spec_l1Cur_one.call hy ?_, rfl, rfl, ?_⟩)))
        | ((with_reducible refine fin_mk ?_); (repeat (first | replace H := grd_k H | replace H := out_step H (by assumption))); have H := Option.some.inj H; subst H))
    | constructor
def G46 : Env := G45.add 13 [] spec_DrawCrashLog.S
theorem G46_ok : EnvOk Tryd.prog G46 := G45_ok.add ent_13 fun ar h r h1 ⟨a0, y, hy, e1, e2, e3, e4⟩ => by
  subst e3 e4; exact (spec_DrawCrashLog.spec a0 y hy).le e1 e2
attribute [local irreducible] spec_DrawCrashLog

noncomputable def impl_RecoverLog (a0 : ByteArray) : Option (Log × Int × Bool) :=
  (cond (decide ((30000 : Int) < (a0.size : Int))) ((some (((ByteArray.mk #[]), (ByteArray.mk #[]), (0 : Int), ()), (0 : Int), false))) ((impl_readRecords a0).bind fun y1 => (grd (0 ≤ (w64 ((y1.2.length : Int) - (1 : Int))) ∧ (w64 ((y1.2.length : Int) - (1 : Int))) < (y1.2.length : Int)) (grd (0 ≤ (0 : Int) ∧ (0 : Int) ≤ (y1.2.getD ((w64 ((y1.2.length : Int) - (1 : Int))).toNat) 0) ∧ (y1.2.getD ((w64 ((y1.2.length : Int) - (1 : Int))).toNat) 0) ≤ (a0.size : Int)) ((some (((bsub a0 (0 : Int) (y1.2.getD ((w64 ((y1.2.length : Int) - (1 : Int))).toNat) 0)), (ByteArray.mk #[]), (y1.1.length : Int), ()), (y1.2.getD ((w64 ((y1.2.length : Int) - (1 : Int))).toNat) 0), true)))))))
def impl_RecoverLog.res (_ : ByteArray) (y : Log × Int × Bool) : AV := (.tup [(.agg [(.v (.string y.1.1)), (.v (.string y.1.2.1)), (.v (.int .i64 y.1.2.2.1))]), (.v (.int .i64 y.2.1)), (.bl y.2.2)])
def impl_RecoverLog.out (_ : ByteArray) (_ : Log × Int × Bool) : List (Option LB) := []
def impl_RecoverLog.S (ar : List AV) (h : List (Option LB)) (r : AV) (h1 : List (Option LB)) : Prop := ∃ a0 y, impl_RecoverLog a0 = some y ∧ leL ar [(.v (.string a0))] ∧ leH h [] ∧ r = impl_RecoverLog.res a0 y ∧ h1 = impl_RecoverLog.out a0 y
theorem impl_RecoverLog.call {ar : List AV} {h : List (Option LB)} {a0 : ByteArray} {y : Log × Int × Bool} (H : impl_RecoverLog a0 = some y) (h0 : leLk ar [(.v (.string a0))] (leHk h [])) : impl_RecoverLog.S ar h (impl_RecoverLog.res a0 y) (impl_RecoverLog.out a0 y) := ⟨a0, y, H, (args_ok h0).1, (args_ok h0).2, rfl, rfl⟩
set_option maxHeartbeats 100000000 in
set_option maxRecDepth 100000 in
theorem impl_RecoverLog.spec (a0 : ByteArray) (y : Log × Int × Bool) (H : impl_RecoverLog a0 = some y) : Spec Tryd.prog 14 [(.v (.string a0))] [] (impl_RecoverLog.res a0 y) (impl_RecoverLog.out a0 y) := by
  refine spec_intro (G46_ok.at tok []) (ct := [(4, some [0, 2, 5, 6])]) Tryd.func14 rfl (by kernel_rfl) (by kernel_rfl) rfl ?_
  repeat' first
    | ((with_reducible refine eqg ?_); exact rfl)
    | ((with_reducible refine KOb.mk ?_); kernel_rfl)
    | ((with_reducible intro h); (repeat (first | replace H := grd_k H | replace H := out_step H (by assumption))); first | replace H := cond_t h H | replace H := cond_f h H | exact absurd h (by decide) | skip)
    | ((with_reducible refine Ob.mk ?_); first | (with_reducible rfl) | (first | ((repeat (first | (with_reducible exact grd_p H) | (replace H := grd_k H) | (replace H := out_step H (by assumption)))); done) | rfl | ((repeat (first | exact grd_p H | replace H := grd_k H | replace H := out_step H (by assumption))); done) | ((repeat (first | exact grd_p H | (have hp := grd_p H; exact hp) | replace H := grd_k H | replace H := out_step H (by assumption) | (replace H := bind_some H; obtain ⟨_, _, H⟩ := H))); done) | (repeat (first | exact grd_p H | replace H := grd_k H | replace H := out_step H (by assumption)))))
    | (with_reducible exact True.intro)
    | ((conv => whnf); first
        | (with_reducible refine And.intro ?_ ?_)
        | (with_reducible exact True.intro)
        | ((with_reducible refine Ob.mk ?_); first | (with_reducible rfl) | (first | ((repeat (first | (with_reducible exact grd_p H) | (replace H := grd_k H) | (replace H := out_step H (by assumption)))); done) | rfl | ((repeat (first | exact grd_p H | replace H := grd_k H | replace H := out_step H (by assumption))); done) | ((repeat (first | exact grd_p H | (have hp := grd_p H; exact hp) | replace H := grd_k H | replace H := out_step H (by assumption) | (replace H := bind_some H; obtain ⟨_, _, H⟩ := H))); done) | (repeat (first | exact grd_p H | replace H := grd_k H | replace H := out_step H (by assumption)))))
        | ((with_reducible refine CallW.mk ?_); (repeat (first | replace H := grd_k H | replace H := out_step H (by assumption))); replace H := bind_some H; obtain ⟨y, hy, H⟩ := H; first | ((with_reducible have hz : impl_readRecords _ = some y := hy); clear hz; refine Exists.intro _ (Exists.intro _ ⟨impl_readRecords.call hy ?_, rfl, rfl, ?_⟩)))
        | ((with_reducible refine fin_mk ?_); (repeat (first | replace H := grd_k H | replace H := out_step H (by assumption))); have H := Option.some.inj H; subst H))
    | constructor
def G47 : Env := G46.add 14 [] impl_RecoverLog.S
theorem G47_ok : EnvOk Tryd.prog G47 := G46_ok.add ent_14 fun ar h r h1 ⟨a0, y, hy, e1, e2, e3, e4⟩ => by
  subst e3 e4; exact (impl_RecoverLog.spec a0 y hy).le e1 e2
attribute [local irreducible] impl_RecoverLog

noncomputable def impl_LogRecords (a0 : Log) : Option ((Unit) ⊕ ((List LogRecord))) :=
  ((impl_Log_records (a0.1, a0.2.1, a0.2.2.1, ())).bind fun y1 => (cond (!y1.2) ((some (Sum.inl ()))) ((some (Sum.inr y1.1)))))
def impl_LogRecords.res (_ : Log) (y : (Unit) ⊕ ((List LogRecord))) : AV := match y with
  | (.inl y) => (.tup [(.v (.slice none 0 0)), (.v (.bool false))])
  | (.inr y) => (.tup [(.own 0), (.v (.bool true))])
def impl_LogRecords.out (_ : Log) (y : (Unit) ⊕ ((List LogRecord))) : List (Option LB) := match y with
  | (.inl y) => []
  | (.inr y) => [some (.arr 39 ty_LogRecord y)]
def impl_LogRecords.S (ar : List AV) (h : List (Option LB)) (r : AV) (h1 : List (Option LB)) : Prop := ∃ a0 y, impl_LogRecords a0 = some y ∧ leL ar [(.agg [(.v (.string a0.1)), (.v (.string a0.2.1)), (.v (.int .i64 a0.2.2.1))])] ∧ leH h [] ∧ r = impl_LogRecords.res a0 y ∧ h1 = impl_LogRecords.out a0 y
theorem impl_LogRecords.call {ar : List AV} {h : List (Option LB)} {a0 : Log} {y : (Unit) ⊕ ((List LogRecord))} (H : impl_LogRecords a0 = some y) (h0 : leLk ar [(.agg [(.v (.string a0.1)), (.v (.string a0.2.1)), (.v (.int .i64 a0.2.2.1))])] (leHk h [])) : impl_LogRecords.S ar h (impl_LogRecords.res a0 y) (impl_LogRecords.out a0 y) := ⟨a0, y, H, (args_ok h0).1, (args_ok h0).2, rfl, rfl⟩
set_option maxHeartbeats 100000000 in
set_option maxRecDepth 100000 in
theorem impl_LogRecords.spec (a0 : Log) (y : (Unit) ⊕ ((List LogRecord))) (H : impl_LogRecords a0 = some y) : Spec Tryd.prog 15 [(.agg [(.v (.string a0.1)), (.v (.string a0.2.1)), (.v (.int .i64 a0.2.2.1))])] [] (impl_LogRecords.res a0 y) (impl_LogRecords.out a0 y) := by
  have hlen : Nat.ble ([] : List (Option LB)).length (impl_LogRecords.out a0 y).length = true := by
    rcases y with y | y <;> rfl
  refine spec_intro (G47_ok.at tok []) (ct := [(4, some [4])]) Tryd.func15 rfl (by kernel_rfl) (by kernel_rfl) hlen ?_
  repeat' first
    | ((with_reducible refine eqg ?_); exact rfl)
    | ((with_reducible refine KOb.mk ?_); kernel_rfl)
    | ((with_reducible intro h); (repeat (first | replace H := grd_k H | replace H := out_step H (by assumption))); first | replace H := cond_t h H | replace H := cond_f h H | exact absurd h (by decide) | skip)
    | ((with_reducible refine Ob.mk ?_); first | (with_reducible rfl) | (first | ((repeat (first | (with_reducible exact grd_p H) | (replace H := grd_k H) | (replace H := out_step H (by assumption)))); done) | rfl | ((repeat (first | exact grd_p H | replace H := grd_k H | replace H := out_step H (by assumption))); done) | ((repeat (first | exact grd_p H | (have hp := grd_p H; exact hp) | replace H := grd_k H | replace H := out_step H (by assumption) | (replace H := bind_some H; obtain ⟨_, _, H⟩ := H))); done) | (repeat (first | exact grd_p H | replace H := grd_k H | replace H := out_step H (by assumption)))))
    | (with_reducible exact True.intro)
    | ((conv => whnf); first
        | (with_reducible refine And.intro ?_ ?_)
        | (with_reducible exact True.intro)
        | ((with_reducible refine Ob.mk ?_); first | (with_reducible rfl) | (first | ((repeat (first | (with_reducible exact grd_p H) | (replace H := grd_k H) | (replace H := out_step H (by assumption)))); done) | rfl | ((repeat (first | exact grd_p H | replace H := grd_k H | replace H := out_step H (by assumption))); done) | ((repeat (first | exact grd_p H | (have hp := grd_p H; exact hp) | replace H := grd_k H | replace H := out_step H (by assumption) | (replace H := bind_some H; obtain ⟨_, _, H⟩ := H))); done) | (repeat (first | exact grd_p H | replace H := grd_k H | replace H := out_step H (by assumption)))))
        | ((with_reducible refine CallW.mk ?_); (repeat (first | replace H := grd_k H | replace H := out_step H (by assumption))); replace H := bind_some H; obtain ⟨y, hy, H⟩ := H; first | ((with_reducible have hz : impl_Log_records _ = some y := hy); clear hz; refine Exists.intro _ (Exists.intro _ ⟨impl_Log_records.call hy ?_, rfl, rfl, ?_⟩)))
        | ((with_reducible refine fin_mk ?_); (repeat (first | replace H := grd_k H | replace H := out_step H (by assumption))); have H := Option.some.inj H; subst H))
    | constructor
def G48 : Env := G47.add 15 [] impl_LogRecords.S
theorem G48_ok : EnvOk Tryd.prog G48 := G47_ok.add ent_15 fun ar h r h1 ⟨a0, y, hy, e1, e2, e3, e4⟩ => by
  subst e3 e4; exact (impl_LogRecords.spec a0 y hy).le e1 e2
attribute [local irreducible] impl_LogRecords

end Go.Proofs.YtppiaacfnoifkaaDoor
