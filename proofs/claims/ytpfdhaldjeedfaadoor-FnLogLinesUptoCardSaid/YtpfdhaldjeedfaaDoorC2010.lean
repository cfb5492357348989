/-
  Contracts, printed by a program.
-/
import Derived.Test.YtpfdhaldjeedfaaDoorC209
namespace Go.Proofs.YtpfdhaldjeedfaaDoor
open Go.RowKit
attribute [local irreducible] Ob loopwp Sub Spec Fin Again CallW CutC KOb iter joinx outm

attribute [local irreducible] laws_szLogRecord laws_toLogRecord spec_l1In spec_l27Plain spec_l1Stands spec_l27Good spec_l1Num spec_l1Num_f spec_l1Sum spec_l1Seal spec_l27Line spec_EncodeRecord impl_within strings_ContainsAny impl_isPlain impl_IsValidRecord strconv_Itoa strings_Contains impl_checksum impl_AppendChecksum impl_encodeRecord impl_EncodeRecord laws_FnExactEncodeRecord spec_l1Split spec_l27Read spec_l27Open spec_RecoverLog strings_Cut impl_VerifyChecksum internal_stringslite_HasPrefix internal_stringslite_CutPrefix strings_CutPrefix impl_decodeRecord impl_readRecords impl_RecoverLog laws_eqLog laws_FnExactRecoverLog laws_szLog laws_toLog spec_l27Log spec_IsValidLog impl_Log_records impl_IsValidLog laws_FnExactIsValidLog spec_SyncLog impl_SyncLog laws_FnExactSyncLog spec_AppendRecord impl_AppendRecord laws_FnExactAppendRecord spec_LogRecords impl_LogRecords laws_eqLogRecord laws_eqLogRecordS laws_markText

noncomputable def laws_markLogRecordS_loop1  (v8 : Int) (v9 : Int) (v10 : (List LogRecord)) : Option (Lp (Int × Int × (List LogRecord)) ((Int × (List LogRecord)))) :=
  (cond (decide (v9 < (v10.length : Int))) ((laws_markText v8).bind fun y11 => (grd (0 ≤ v9 ∧ v9 < (v10.length : Int)) ((laws_markText (w64 (v8 + (1 : Int)))).bind fun y12 => (grd (0 ≤ v9 ∧ v9 < ((v10.set v9.toNat (y11, (v10.getD v9.toNat d_LogRecord).2.1, ())).length : Int)) (some (.go ((w64 ((w64 (v8 + (1 : Int))) + (1 : Int))), (w64 (v9 + (1 : Int))), ((v10.set v9.toNat (y11, (v10.getD v9.toNat d_LogRecord).2.1, ())).set v9.toNat (((v10.set v9.toNat (y11, (v10.getD v9.toNat d_LogRecord).2.1, ())).getD v9.toNat d_LogRecord).1, y12, ()))))))))) ((some (.out (v8, v10)))))
noncomputable def laws_markLogRecordS (a0 : (List LogRecord)) (a1 : Int) : Option (Int × (List LogRecord)) :=
  ((iter (fun s => laws_markLogRecordS_loop1 s.1 s.2.1 s.2.2) (a1, (0 : Int), a0)).bind (fun r13 => (some (r13.1, r13.2))))
def laws_markLogRecordS.res (_ : (List LogRecord)) (_ : Int) (y : Int × (List LogRecord)) : AV := (.v (.int .i64 y.1))
def laws_markLogRecordS.out (_ : (List LogRecord)) (_ : Int) (y : Int × (List LogRecord)) : List (Option LB) := [some (.arr 27 ty_LogRecord y.2)]
def laws_markLogRecordS.S (ar : List AV) (h : List (Option LB)) (r : AV) (h1 : List (Option LB)) : Prop := ∃ a0 a1 y, laws_markLogRecordS a0 a1 = some y ∧ leL ar [(.own 0), (.v (.int .i64 a1))] ∧ leH h [some (.arr 27 ty_LogRecord a0)] ∧ r = laws_markLogRecordS.res a0 a1 y ∧ h1 = laws_markLogRecordS.out a0 a1 y
theorem laws_markLogRecordS.call {ar : List AV} {h : List (Option LB)} {a0 : (List LogRecord)} {a1 : Int} {y : Int × (List LogRecord)} (H : laws_markLogRecordS a0 a1 = some y) (h0 : leLk ar [(.own 0), (.v (.int .i64 a1))] (leHk h [some (.arr 27 ty_LogRecord a0)])) : laws_markLogRecordS.S ar h (laws_markLogRecordS.res a0 a1 y) (laws_markLogRecordS.out a0 a1 y) := ⟨a0, a1, y, H, (args_ok h0).1, (args_ok h0).2, rfl, rfl⟩
set_option maxHeartbeats 100000000 in
set_option maxRecDepth 100000 in
theorem laws_markLogRecordS.spec (a0 : (List LogRecord)) (a1 : Int) (y : Int × (List LogRecord)) (H : laws_markLogRecordS a0 a1 = some y) : Spec Tryd.prog 33 [(.own 0), (.v (.int .i64 a1))] [some (.arr 27 ty_LogRecord a0)] (laws_markLogRecordS.res a0 a1 y) (laws_markLogRecordS.out a0 a1 y) := by
  refine spec_intro (G54_ok.at tok []) (ct := [(7, some [0, 1, 5])]) Tryd.func33 rfl (by kernel_rfl) (by kernel_rfl) rfl ?_
  repeat' first
    | ((with_reducible refine eqg ?_); exact rfl)
    | ((with_reducible refine KOb.mk ?_); kernel_rfl)
    | ((with_reducible intro h); (repeat (first | replace H := grd_k H | replace H := out_step H (by assumption))); first | replace H := cond_t h H | replace H := cond_f h H | exact absurd h (by decide) | skip)
    | ((with_reducible refine Ob.mk ?_); first | rfl | (repeat (first | exact grd_p H | (have hp := grd_p H; exact hp) | replace H := grd_k H | replace H := out_step H (by assumption) | (replace H := bind_some H; obtain ⟨_, _, H⟩ := H))))
    | (with_reducible exact True.intro)
    | constructor
    | ((conv => whnf); first
        | ((with_reducible refine Ob.mk ?_); first | rfl | (repeat (first | exact grd_p H | (have hp := grd_p H; exact hp) | replace H := grd_k H | replace H := out_step H (by assumption) | (replace H := bind_some H; obtain ⟨_, _, H⟩ := H))))
        | ((with_reducible refine CallW.mk ?_); (repeat (first | replace H := grd_k H | replace H := out_step H (by assumption))); replace H := bind_some H; obtain ⟨y, hy, H⟩ := H; first | ((with_reducible have hz : laws_markText _ = some y := hy); clear hz; refine Exists.intro _ (Exists.intro _ ⟨laws_markText.call hy ?_, rfl, rfl, ?_⟩)))
        | ((repeat (first | replace H := grd_k H | replace H := out_step H (by assumption))); refine loop_iter (G54_ok.at tok []) (ct := [(7, some [0, 1, 5])]) (F := (fun s1 : Int × Int × (List LogRecord) => ⟨sl [(0, (.own 0)), (1, (.v (.int .i64 s1.1))), (5, (.v (.int .i64 s1.2.1)))], [some (.arr 27 ty_LogRecord s1.2.2)]⟩)) (step := (fun s : Int × Int × (List LogRecord) => laws_markLogRecordS_loop1 s.1 s.2.1 s.2.2)) _ H (by kernel_rfl) (sub_auto ?_) ?_; rotate_left; (intro s1 r v hr H); rotate_right)
        | ((repeat (first | replace H := grd_k H | replace H := out_step H (by assumption))); refine again_step H (by assumption) (sub_auto ?_))
        | ((with_reducible refine fin_mk ?_); (repeat (first | replace H := grd_k H | replace H := out_step H (by assumption))); have H := Option.some.inj H; subst H))
def G55 : Env := G54.add 33 [true] laws_markLogRecordS.S
theorem G55_ok : EnvOk Tryd.prog G55 := G54_ok.add ent_33 fun ar h r h1 ⟨a0, a1, y, hy, e1, e2, e3, e4⟩ => by
  subst e3 e4; exact (laws_markLogRecordS.spec a0 a1 y hy).le e1 e2
attribute [local irreducible] laws_markLogRecordS

noncomputable def laws_heldLogRecordS_loop1 (a0 : (List LogRecord)) (v7 : Int) (v8 : Int) : Option (Lp (Int × Int) ((Unit) ⊕ (Int))) :=
  (cond (decide (v8 < (a0.length : Int))) (grd (0 ≤ v8 ∧ v8 < (a0.length : Int)) ((laws_markText v7).bind fun y9 => (cond (!decide (((a0.getD v8.toNat d_LogRecord).1) = y9)) ((some (.out (Sum.inl ())))) (grd (0 ≤ v8 ∧ v8 < (a0.length : Int)) ((laws_markText (w64 (v7 + (1 : Int)))).bind fun y10 => (cond (!decide (((a0.getD v8.toNat d_LogRecord).2.1) = y10)) ((some (.out (Sum.inl ())))) (some (.go ((w64 ((w64 (v7 + (1 : Int))) + (1 : Int))), (w64 (v8 + (1 : Int)))))))))))) ((some (.out (Sum.inr v7)))))
noncomputable def laws_heldLogRecordS (a0 : (List LogRecord)) (a1 : Int) : Option (Int) :=
  ((iter (fun s => laws_heldLogRecordS_loop1 a0 s.1 s.2) (a1, (0 : Int))).bind (Sum.elim (fun _ => (some ((-1) : Int))) (fun r13 => (some r13))))
def laws_heldLogRecordS.res (_ : (List LogRecord)) (_ : Int) (y : Int) : AV := (.v (.int .i64 y))
def laws_heldLogRecordS.out (_ : (List LogRecord)) (_ : Int) (_ : Int) : List (Option LB) := []
def laws_heldLogRecordS.S (ar : List AV) (h : List (Option LB)) (r : AV) (h1 : List (Option LB)) : Prop := ∃ a0 a1 y, laws_heldLogRecordS a0 a1 = some y ∧ leL ar [(.tree ty_LogRecord a0), (.v (.int .i64 a1))] ∧ leH h [] ∧ r = laws_heldLogRecordS.res a0 a1 y ∧ h1 = laws_heldLogRecordS.out a0 a1 y
theorem laws_heldLogRecordS.call {ar : List AV} {h : List (Option LB)} {a0 : (List LogRecord)} {a1 : Int} {y : Int} (H : laws_heldLogRecordS a0 a1 = some y) (h0 : leLk ar [(.tree ty_LogRecord a0), (.v (.int .i64 a1))] (leHk h [])) : laws_heldLogRecordS.S ar h (laws_heldLogRecordS.res a0 a1 y) (laws_heldLogRecordS.out a0 a1 y) := ⟨a0, a1, y, H, (args_ok h0).1, (args_ok h0).2, rfl, rfl⟩
set_option maxHeartbeats 100000000 in
set_option maxRecDepth 100000 in
theorem laws_heldLogRecordS.spec (a0 : (List LogRecord)) (a1 : Int) (y : Int) (H : laws_heldLogRecordS a0 a1 = some y) : Spec Tryd.prog 34 [(.tree ty_LogRecord a0), (.v (.int .i64 a1))] [] (laws_heldLogRecordS.res a0 a1 y) (laws_heldLogRecordS.out a0 a1 y) := by
  refine spec_intro (G55_ok.at tok []) (ct := [(7, some [0, 1, 5])]) Tryd.func34 rfl (by kernel_rfl) (by kernel_rfl) rfl ?_
  repeat' first
    | ((with_reducible refine eqg ?_); exact rfl)
    | ((with_reducible refine KOb.mk ?_); kernel_rfl)
    | ((with_reducible intro h); (repeat (first | replace H := grd_k H | replace H := out_step H (by assumption))); first | replace H := cond_t h H | replace H := cond_f h H | exact absurd h (by decide) | skip)
    | ((with_reducible refine Ob.mk ?_); first | rfl | (repeat (first | exact grd_p H | (have hp := grd_p H; exact hp) | replace H := grd_k H | replace H := out_step H (by assumption) | (replace H := bind_some H; obtain ⟨_, _, H⟩ := H))))
    | (with_reducible exact True.intro)
    | constructor
    | ((conv => whnf); first
        | ((with_reducible refine Ob.mk ?_); first | rfl | (repeat (first | exact grd_p H | (have hp := grd_p H; exact hp) | replace H := grd_k H | replace H := out_step H (by assumption) | (replace H := bind_some H; obtain ⟨_, _, H⟩ := H))))
        | ((with_reducible refine CallW.mk ?_); (repeat (first | replace H := grd_k H | replace H := out_step H (by assumption))); replace H := bind_some H; obtain ⟨y, hy, H⟩ := H; first | ((with_reducible have hz : laws_markText _ = some y := hy); clear hz; refine Exists.intro _ (Exists.intro _ ⟨laws_markText.call hy ?_, rfl, rfl, ?_⟩)))
        | ((repeat (first | replace H := grd_k H | replace H := out_step H (by assumption))); refine loop_iter (G55_ok.at tok []) (ct := [(7, some [0, 1, 5])]) (F := (fun s1 : Int × Int => ⟨sl [(0, (.tree ty_LogRecord a0)), (1, (.v (.int .i64 s1.1))), (5, (.v (.int .i64 s1.2)))], []⟩)) (step := (fun s : Int × Int => laws_heldLogRecordS_loop1 _ s.1 s.2)) _ H (by kernel_rfl) (sub_auto ?_) ?_; rotate_left; (intro s1 r v hr H); rotate_right)
        | ((repeat (first | replace H := grd_k H | replace H := out_step H (by assumption))); refine again_step H (by assumption) (sub_auto ?_))
        | ((with_reducible refine fin_mk ?_); (repeat (first | replace H := grd_k H | replace H := out_step H (by assumption))); have H := Option.some.inj H; subst H))
def G56 : Env := G55.add 34 [] laws_heldLogRecordS.S
theorem G56_ok : EnvOk Tryd.prog G56 := G55_ok.add ent_34 fun ar h r h1 ⟨a0, a1, y, hy, e1, e2, e3, e4⟩ => by
  subst e3 e4; exact (laws_heldLogRecordS.spec a0 a1 y hy).le e1 e2
attribute [local irreducible] laws_heldLogRecordS

noncomputable def laws_markLogRecordS_i1_loop1   : Option (Lp (Unit) ((Unit))) :=
  (some (.out ()))
noncomputable def laws_markLogRecordS_i1 (a1 : Int) : Option (Int) :=
  ((iter (fun s => laws_markLogRecordS_i1_loop1) ()).bind (fun _ => (some a1)))
def laws_markLogRecordS_i1.res (_ : Int) (y : Int) : AV := (.v (.int .i64 y))
def laws_markLogRecordS_i1.out (_ : Int) (_ : Int) : List (Option LB) := []
def laws_markLogRecordS_i1.S (ar : List AV) (h : List (Option LB)) (r : AV) (h1 : List (Option LB)) : Prop := ∃ a1 y, laws_markLogRecordS_i1 a1 = some y ∧ leL ar [(.v (.slice none 0 0)), (.v (.int .i64 a1))] ∧ leH h [] ∧ r = laws_markLogRecordS_i1.res a1 y ∧ h1 = laws_markLogRecordS_i1.out a1 y
theorem laws_markLogRecordS_i1.call {ar : List AV} {h : List (Option LB)} {a1 : Int} {y : Int} (H : laws_markLogRecordS_i1 a1 = some y) (h0 : leLk ar [(.v (.slice none 0 0)), (.v (.int .i64 a1))] (leHk h [])) : laws_markLogRecordS_i1.S ar h (laws_markLogRecordS_i1.res a1 y) (laws_markLogRecordS_i1.out a1 y) := ⟨a1, y, H, (args_ok h0).1, (args_ok h0).2, rfl, rfl⟩
set_option maxHeartbeats 100000000 in
set_option maxRecDepth 100000 in
theorem laws_markLogRecordS_i1.spec (a1 : Int) (y : Int) (H : laws_markLogRecordS_i1 a1 = some y) : Spec Tryd.prog 33 [(.v (.slice none 0 0)), (.v (.int .i64 a1))] [] (laws_markLogRecordS_i1.res a1 y) (laws_markLogRecordS_i1.out a1 y) := by
  refine spec_intro (G56_ok.at tok []) (ct := [(7, some [0, 1, 5])]) Tryd.func33 rfl (by kernel_rfl) (by kernel_rfl) rfl ?_
  repeat' first
    | ((with_reducible refine eqg ?_); exact rfl)
    | ((with_reducible refine KOb.mk ?_); kernel_rfl)
    | ((with_reducible intro h); (repeat (first | replace H := grd_k H | replace H := out_step H (by assumption))); first | replace H := cond_t h H | replace H := cond_f h H | exact absurd h (by decide) | skip)
    | ((with_reducible refine Ob.mk ?_); first | rfl | (repeat (first | exact grd_p H | (have hp := grd_p H; exact hp) | replace H := grd_k H | replace H := out_step H (by assumption) | (replace H := bind_some H; obtain ⟨_, _, H⟩ := H))))
    | (with_reducible exact True.intro)
    | constructor
    | ((conv => whnf); first
        | ((with_reducible refine Ob.mk ?_); first | rfl | (repeat (first | exact grd_p H | (have hp := grd_p H; exact hp) | replace H := grd_k H | replace H := out_step H (by assumption) | (replace H := bind_some H; obtain ⟨_, _, H⟩ := H))))
        | ((repeat (first | replace H := grd_k H | replace H := out_step H (by assumption))); refine loop_iter (G56_ok.at tok []) (ct := [(7, some [0, 1, 5])]) (F := (fun s1 : Unit => ⟨sl [(0, (.v (.slice none 0 0))), (1, (.v (.int .i64 a1))), (5, (.v (.int .i64 (0 : Int))))], []⟩)) (step := (fun s : Unit => laws_markLogRecordS_i1_loop1)) _ H (by kernel_rfl) (sub_auto ?_) ?_; rotate_left; (intro s1 r v hr H); rotate_right)
        | ((repeat (first | replace H := grd_k H | replace H := out_step H (by assumption))); refine again_step H (by assumption) (sub_auto ?_))
        | ((with_reducible refine fin_mk ?_); (repeat (first | replace H := grd_k H | replace H := out_step H (by assumption))); have H := Option.some.inj H; subst H))
def G57 : Env := G56.addOr 33 [true] laws_markLogRecordS_i1.S
theorem G57_ok : EnvOk Tryd.prog G57 := G56_ok.addOr ent_33 fun ar h r h1 ⟨a1, y, hy, e1, e2, e3, e4⟩ => by
  subst e3 e4; exact (laws_markLogRecordS_i1.spec a1 y hy).le e1 e2
attribute [local irreducible] laws_markLogRecordS_i1

noncomputable def laws_FnExactLogRecords (a0 : Log) : Option (Bool) :=
  ((laws_szLog (a0.1, a0.2.1, a0.2.2.1, ()) (1048576 : Int)).bind fun y1 => (cond (decide (y1 < (0 : Int))) ((some true)) ((laws_toLog (a0.1, a0.2.1, a0.2.2.1, ())).bind fun y2 => ((spec_LogRecords (y2.1, y2.2.1, y2.2.2.1, ())).bind fun y3 => ((laws_toLog (a0.1, a0.2.1, a0.2.2.1, ())).bind fun y4 => ((impl_LogRecords (y4.1, y4.2.1, y4.2.2.1, ())).bind (Sum.elim (fun _ => ((laws_eqLogRecordS [] y3.1).bind fun y7 => (cond (!y7) ((some false)) (cond (!(false == y3.2)) ((some false)) ((laws_markLogRecordS_i1 (1 : Int)).bind fun y8 => ((laws_heldLogRecordS [] (1 : Int)).bind fun y9 => (cond (decide (y9 < (0 : Int))) ((some false)) (cond (!decide (y9 = y8)) ((some false)) (((laws_toLog (a0.1, a0.2.1, a0.2.2.1, ())).bind fun y10 => ((impl_LogRecords (y10.1, y10.2.1, y10.2.2.1, ())).bind (Sum.elim (fun _ => (some ((Tg.mk : Tg 1), y3.2, y8, [], false, y3.1))) (fun y13 => (some ((Tg.mk : Tg 1), y3.2, y8, y13, true, y3.1)))))).bind fun z14 => ((laws_eqLogRecordS z14.2.2.2.1 z14.2.2.2.2.2).bind fun y15 => (cond (!y15) ((some false)) (cond (!(z14.2.2.2.2.1 == z14.2.1)) ((some false)) ((laws_heldLogRecordS [] (1 : Int)).bind fun y16 => (cond (decide (y16 < (0 : Int))) ((some false)) (cond (!decide (y16 = z14.2.2.1)) ((some false)) ((some true))))))))))))))))) (fun y17 => ((laws_eqLogRecordS y17 y3.1).bind fun y18 => (cond (!y18) ((some false)) (cond (!(true == y3.2)) ((some false)) ((laws_markLogRecordS y17 (1 : Int)).bind fun y19 => ((laws_heldLogRecordS y19.2 (1 : Int)).bind fun y20 => (cond (decide (y20 < (0 : Int))) ((some false)) (cond (!decide (y20 = y19.1)) ((some false)) (((laws_toLog (a0.1, a0.2.1, a0.2.2.1, ())).bind fun y21 => ((impl_LogRecords (y21.1, y21.2.1, y21.2.2.1, ())).bind (Sum.elim (fun _ => (some ((Tg.mk : Tg 2), y3.2, y19.1, [], false, y3.1, y19.2))) (fun y24 => (some ((Tg.mk : Tg 2), y3.2, y19.1, y24, true, y3.1, y19.2)))))).bind fun z25 => ((laws_eqLogRecordS z25.2.2.2.1 z25.2.2.2.2.2.1).bind fun y26 => (cond (!y26) ((some false)) (cond (!(z25.2.2.2.2.1 == z25.2.1)) ((some false)) ((laws_heldLogRecordS z25.2.2.2.2.2.2 (1 : Int)).bind fun y27 => (cond (decide (y27 < (0 : Int))) ((some false)) (cond (!decide (y27 = z25.2.2.1)) ((some false)) ((some true))))))))))))))))))))))))
def laws_FnExactLogRecords.res (_ : Log) (y : Bool) : AV := (.bl y)
def laws_FnExactLogRecords.out (_ : Log) (_ : Bool) : List (Option LB) := []
def laws_FnExactLogRecords.S (ar : List AV) (h : List (Option LB)) (r : AV) (h1 : List (Option LB)) : Prop := ∃ a0 y, laws_FnExactLogRecords a0 = some y ∧ leL ar [(.agg [(.v (.string a0.1)), (.v (.string a0.2.1)), (.v (.int .i64 a0.2.2.1))])] ∧ leH h [] ∧ r = laws_FnExactLogRecords.res a0 y ∧ h1 = laws_FnExactLogRecords.out a0 y
theorem laws_FnExactLogRecords.call {ar : List AV} {h : List (Option LB)} {a0 : Log} {y : Bool} (H : laws_FnExactLogRecords a0 = some y) (h0 : leLk ar [(.agg [(.v (.string a0.1)), (.v (.string a0.2.1)), (.v (.int .i64 a0.2.2.1))])] (leHk h [])) : laws_FnExactLogRecords.S ar h (laws_FnExactLogRecords.res a0 y) (laws_FnExactLogRecords.out a0 y) := ⟨a0, y, H, (args_ok h0).1, (args_ok h0).2, rfl, rfl⟩
set_option maxHeartbeats 100000000 in
set_option maxRecDepth 100000 in
theorem laws_FnExactLogRecords.spec (a0 : Log) (y : Bool) (H : laws_FnExactLogRecords a0 = some y) : Spec Tryd.prog 9 [(.agg [(.v (.string a0.1)), (.v (.string a0.2.1)), (.v (.int .i64 a0.2.2.1))])] [] (laws_FnExactLogRecords.res a0 y) (laws_FnExactLogRecords.out a0 y) := by
  refine spec_intro (G57_ok.at tok []) (ct := [(18, none), (6, some [1, 4, 5, 34, 35, 36, 60, 61, 62]), (8, some [1, 4, 5, 6, 37, 60, 61, 62]), (15, some [1, 4, 5, 6, 8, 9, 60, 61, 62]), (22, some [8, 9])]) Tryd.func9 rfl (by kernel_rfl) (by kernel_rfl) rfl ?_
  repeat' first
    | ((with_reducible refine eqg ?_); exact rfl)
    | ((with_reducible refine KOb.mk ?_); kernel_rfl)
    | ((with_reducible intro h); (repeat (first | replace H := grd_k H | replace H := out_step H (by assumption))); first | replace H := cond_t h H | replace H := cond_f h H | exact absurd h (by decide) | skip)
    | ((with_reducible refine Ob.mk ?_); first | rfl | (repeat (first | exact grd_p H | (have hp := grd_p H; exact hp) | replace H := grd_k H | replace H := out_step H (by assumption) | (replace H := bind_some H; obtain ⟨_, _, H⟩ := H))))
    | (with_reducible exact True.intro)
    | constructor
    | ((conv => whnf); first
        | ((with_reducible refine Ob.mk ?_); first | rfl | (repeat (first | exact grd_p H | (have hp := grd_p H; exact hp) | replace H := grd_k H | replace H := out_step H (by assumption) | (replace H := bind_some H; obtain ⟨_, _, H⟩ := H))))
        | ((with_reducible refine CallW.mk ?_); (repeat (first | replace H := grd_k H | replace H := out_step H (by assumption))); replace H := bind_some H; obtain ⟨y, hy, H⟩ := H; first | ((with_reducible have hz : laws_szLog _ _ = some y := hy); clear hz; refine Exists.intro _ (Exists.intro _ ⟨laws_szLog.call hy ?_, rfl, rfl, ?_⟩)) | ((with_reducible have hz : laws_toLog _ = some y := hy); clear hz; refine Exists.intro _ (Exists.intro _ ⟨laws_toLog.call hy ?_, rfl, rfl, ?_⟩)) | ((with_reducible have hz : spec_LogRecords _ = some y := hy); clear hz; refine Exists.intro _ (Exists.intro _ ⟨spec_LogRecords.call hy ?_, rfl, rfl, ?_⟩)) | ((with_reducible have hz : impl_LogRecords _ = some y := hy); clear hz; rcases y with y | y <;> refine Exists.intro _ (Exists.intro _ ⟨impl_LogRecords.call hy ?_, rfl, rfl, ?_⟩)) | ((with_reducible have hz : laws_eqLogRecordS _ _ = some y := hy); clear hz; refine Exists.intro _ (Exists.intro _ ⟨laws_eqLogRecordS.call hy ?_, rfl, rfl, ?_⟩)) | ((with_reducible have hz : laws_markLogRecordS_i1 _ = some y := hy); clear hz; refine Exists.intro _ (Exists.intro _ ⟨Or.inl (laws_markLogRecordS_i1.call hy ?_), rfl, rfl, ?_⟩)) | ((with_reducible have hz : laws_heldLogRecordS _ _ = some y := hy); clear hz; refine Exists.intro _ (Exists.intro _ ⟨laws_heldLogRecordS.call hy ?_, rfl, rfl, ?_⟩)) | ((with_reducible have hz : laws_markLogRecordS _ _ = some y := hy); clear hz; refine Exists.intro _ (Exists.intro _ ⟨Or.inr (laws_markLogRecordS.call hy ?_), rfl, rfl, ?_⟩)))
        | ((with_reducible refine cutAt (id := 18) ?_); (repeat (first | replace H := grd_k H | replace H := out_step H (by assumption))); first | (replace H := bind_some H; obtain ⟨z, hz, H⟩ := H; have hT : Tg 1 × Bool × Int × (List LogRecord) × Bool × (List LogRecord) := z; clear hT; refine CutC.mk (id := 18) ⟨sl [(4, (.own 0)), (5, (.bl z.2.1)), (6, (.v (.slice none 0 0))), (8, (.v (.int .i64 z.2.2.1))), (10, (.tree ty_LogRecord z.2.2.2.1)), (11, (.bl z.2.2.2.2.1))], [some (.arr 27 ty_LogRecord z.2.2.2.2.2)]⟩ ?_ ?_; (replace H := hz)) | (replace H := bind_some H; obtain ⟨z, hz, H⟩ := H; have hT : Tg 2 × Bool × Int × (List LogRecord) × Bool × (List LogRecord) × (List LogRecord) := z; clear hT; refine CutC.mk (id := 18) ⟨sl [(4, (.own 0)), (5, (.bl z.2.1)), (6, (.own 1)), (8, (.v (.int .i64 z.2.2.1))), (10, (.tree ty_LogRecord z.2.2.2.1)), (11, (.bl z.2.2.2.2.1))], [some (.arr 27 ty_LogRecord z.2.2.2.2.2.1), some (.arr 27 ty_LogRecord z.2.2.2.2.2.2)]⟩ ?_ ?_; (replace H := hz)))
        | ((repeat (first | replace H := grd_k H | replace H := out_step H (by assumption))); have H := Option.some.inj H; subst H; with_reducible refine sub_auto ?_)
        | ((with_reducible refine fin_mk ?_); (repeat (first | replace H := grd_k H | replace H := out_step H (by assumption))); have H := Option.some.inj H; subst H))
def G58 : Env := G57.add 9 [] laws_FnExactLogRecords.S
theorem G58_ok : EnvOk Tryd.prog G58 := G57_ok.add ent_9 fun ar h r h1 ⟨a0, y, hy, e1, e2, e3, e4⟩ => by
  subst e3 e4; exact (laws_FnExactLogRecords.spec a0 y hy).le e1 e2
attribute [local irreducible] laws_FnExactLogRecords

end Go.Proofs.YtpfdhaldjeedfaaDoor
