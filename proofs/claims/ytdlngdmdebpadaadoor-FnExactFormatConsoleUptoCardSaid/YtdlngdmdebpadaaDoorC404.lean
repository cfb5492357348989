/-
  Contracts, printed by a program.
-/
import Derived.Test.YtdlngdmdebpadaaDoorC403
namespace Go.Proofs.YtdlngdmdebpadaaDoor
open Go.RowKit
attribute [local irreducible] Ob loopwp Sub Spec Fin Again CallW CutC KOb iter joinx outm

attribute [local irreducible] laws_szSlotS laws_szRopeway laws_szLog laws_szConsole laws_toSlot laws_toSlotS laws_toRopeway laws_toLog laws_toConsole spec_l1In spec_l25Slot spec_l25Good spec_l1Split spec_l1Num spec_l1Num_f spec_l27Plain spec_l1Stands spec_l27Good spec_l1Sum spec_l1Seal spec_l27Line spec_l27Read

noncomputable def spec_l27Open_loop1 (a0 : ByteArray) (v9 : Int) (v10 : (List LogRecord)) : Option (Lp (Int × (List LogRecord)) ((Int × (List LogRecord)))) :=
  (cond (decide (v9 < (a0.size : Int))) (cond (decide ((v10.length : Int) < (60 : Int))) (grd (0 ≤ v9 ∧ v9 ≤ (a0.size : Int) ∧ (a0.size : Int) ≤ (a0.size : Int)) ((spec_l1Split (bsub a0 v9 (a0.size : Int)) (10 : Int)).bind fun y11 => (grd (0 ≤ (0 : Int) ∧ (0 : Int) < (y11.length : Int)) ((spec_l27Read (y11.getD ((0 : Int).toNat) (ByteArray.mk #[])) (v10.length : Int)).bind fun y12 => (cond (decide ((y11.length : Int) < (2 : Int))) ((some (.out (v9, v10)))) (cond (!y12.2) ((some (.out (v9, v10)))) (grd (v10.length + [(y12.1.1, y12.1.2.1, ())].length ≤ 140737488355328 / 32 ∧ v10.length + [(y12.1.1, y12.1.2.1, ())].length ≤ 140737488355328) (grd (0 ≤ (0 : Int) ∧ (0 : Int) < (y11.length : Int)) (some (.go ((w64 ((w64 (v9 + ((y11.getD ((0 : Int).toNat) (ByteArray.mk #[])).size : Int))) + (1 : Int))), (v10 ++ [(y12.1.1, y12.1.2.1, ())])))))))))))) ((some (.out (v9, v10))))) ((some (.out (v9, v10)))))
noncomputable def spec_l27Open (a0 : ByteArray) : Option ((List LogRecord) × Int) :=
  ((iter (fun s => spec_l27Open_loop1 a0 s.1 s.2) ((0 : Int), ([] : List LogRecord))).bind (fun r13 => (some (r13.2, r13.1))))
def spec_l27Open.res (_ : ByteArray) (y : (List LogRecord) × Int) : AV := (.tup [(.own 0), (.v (.int .i64 y.2))])
def spec_l27Open.out (_ : ByteArray) (y : (List LogRecord) × Int) : List (Option LB) := [some (.arr 89 ty_LogRecord y.1)]
def spec_l27Open.S (ar : List AV) (h : List (Option LB)) (r : AV) (h1 : List (Option LB)) : Prop := ∃ a0 y, spec_l27Open a0 = some y ∧ leL ar [(.v (.string a0))] ∧ leH h [] ∧ r = spec_l27Open.res a0 y ∧ h1 = spec_l27Open.out a0 y
theorem spec_l27Open.call {ar : List AV} {h : List (Option LB)} {a0 : ByteArray} {y : (List LogRecord) × Int} (H : spec_l27Open a0 = some y) (h0 : leLk ar [(.v (.string a0))] (leHk h [])) : spec_l27Open.S ar h (spec_l27Open.res a0 y) (spec_l27Open.out a0 y) := ⟨a0, y, H, (args_ok h0).1, (args_ok h0).2, rfl, rfl⟩
set_option maxHeartbeats 100000000 in
set_option maxRecDepth 100000 in
theorem spec_l27Open.spec (a0 : ByteArray) (y : (List LogRecord) × Int) (H : spec_l27Open a0 = some y) : Spec Tryd.prog 40 [(.v (.string a0))] [] (spec_l27Open.res a0 y) (spec_l27Open.out a0 y) := by
  refine spec_intro (G21_ok.at tok []) (ct := [(5, some [0, 4, 5, 6, 15, 16, 17, 36, 37]), (7, some [0, 4, 5, 6, 7, 15, 16, 17, 36, 37])]) Tryd.func40 rfl (by kernel_rfl) (by kernel_rfl) rfl ?_
  repeat' first
    | ((with_reducible refine eqg ?_); exact rfl)
    | ((with_reducible refine KOb.mk ?_); kernel_rfl)
    | ((with_reducible intro h); (repeat (first | replace H := grd_k H | replace H := out_step H (by assumption))); first | replace H := cond_t h H | replace H := cond_f h H | exact absurd h (by decide) | skip)
    | ((with_reducible refine Ob.mk ?_); first | (with_reducible rfl) | (first | ((repeat (first | (with_reducible exact grd_p H) | (replace H := grd_k H) | (replace H := out_step H (by assumption)))); done) | rfl | ((repeat (first | exact grd_p H | replace H := grd_k H | replace H := out_step H (by assumption))); done) | ((repeat (first | exact grd_p H | (have hp := grd_p H; exact hp) | replace H := grd_k H | replace H := out_step H (by assumption) | (replace H := bind_some H; obtain ⟨_, _, H⟩ := H))); done) | (repeat (first | exact grd_p H | replace H := grd_k H | replace H := out_step H (by assumption)))))
    | (with_reducible exact True.intro)
    | constructor
    | ((conv => whnf); first
        | ((with_reducible refine Ob.mk ?_); first | (with_reducible rfl) | (first | ((repeat (first | (with_reducible exact grd_p H) | (replace H := grd_k H) | (replace H := out_step H (by assumption)))); done) | rfl | ((repeat (first | exact grd_p H | replace H := grd_k H | replace H := out_step H (by assumption))); done) | ((repeat (first | exact grd_p H | (have hp := grd_p H; exact hp) | replace H := grd_k H | replace H := out_step H (by assumption) | (replace H := bind_some H; obtain ⟨_, _, H⟩ := H))); done) | (repeat (first | exact grd_p H | replace H := grd_k H | replace H := out_step H (by assumption)))))
        | ((with_reducible refine CallW.mk ?_); (repeat (first | replace H := grd_k H | replace H := out_step H (by assumption))); replace H := bind_some H; obtain ⟨y, hy, H⟩ := H; first | ((with_reducible have hz : spec_l1Split _ _ = some y := hy); clear hz; refine Exists.intro _ (Exists.intro _ ⟨spec_l1Split.call hy ?_, rfl, rfl, ?_⟩)) | ((with_reducible have hz : spec_l27Read _ _ = some y := hy); clear hz; refine Exists.intro _ (Exists.intro _ ⟨spec_l27Read.call hy ?_, rfl, rfl, ?_⟩)))
        | ((repeat (first | replace H := grd_k H | replace H := out_step H (by assumption))); refine loop_iter (G21_ok.at tok []) (ct := [(5, some [0, 4, 5, 6, 15, 16, 17, 36, 37]), (7, some [0, 4, 5, 6, 7, 15, 16, 17, 36, 37])]) (F := (fun s1 : Int × (List LogRecord) => ⟨sl [(0, (.v (.string a0))), (4, (.own 0)), (5, (.v (.int .i64 s1.1)))], [some (.arr 89 ty_LogRecord s1.2)]⟩)) (step := (fun s : Int × (List LogRecord) => spec_l27Open_loop1 _ s.1 s.2)) _ H (by kernel_rfl) (sub_auto ?_) ?_; rotate_left; (intro s1 r v hr H); rotate_right)
        | ((repeat (first | replace H := grd_k H | replace H := out_step H (by assumption))); refine again_step H (by assumption) (sub_auto ?_))
        | ((with_reducible refine fin_mk ?_); (repeat (first | replace H := grd_k H | replace H := out_step H (by assumption))); have H := Option.some.inj H; subst H))
def G22 : Env := G21.add 40 [] spec_l27Open.S
theorem G22_ok : EnvOk Tryd.prog G22 := G21_ok.add ent_40 fun ar h r h1 ⟨a0, y, hy, e1, e2, e3, e4⟩ => by
  subst e3 e4; exact (spec_l27Open.spec a0 y hy).le e1 e2
attribute [local irreducible] spec_l27Open

noncomputable def spec_l27Log (a0 : Log) : Option (Bool) :=
  (cond (decide ((30000 : Int) < (w64 ((a0.1.size : Int) + (a0.2.1.size : Int))))) ((some false)) (grd (a0.1.size + a0.2.1.size ≤ 9223372036854775807) ((spec_l27Open (a0.1 ++ a0.2.1)).bind fun y1 => ((spec_l27Open a0.1).bind fun y2 => (cond (decide (y1.2 = (w64 ((a0.1.size : Int) + (a0.2.1.size : Int))))) (cond (decide (y2.2 = (a0.1.size : Int))) ((some (decide ((y1.1.length : Int) = a0.2.2.1)))) ((some false))) ((some false)))))))
def spec_l27Log.res (_ : Log) (y : Bool) : AV := (.bl y)
def spec_l27Log.out (_ : Log) (_ : Bool) : List (Option LB) := []
def spec_l27Log.S (ar : List AV) (h : List (Option LB)) (r : AV) (h1 : List (Option LB)) : Prop := ∃ a0 y, spec_l27Log a0 = some y ∧ leL ar [(.agg [(.v (.string a0.1)), (.v (.string a0.2.1)), (.v (.int .i64 a0.2.2.1))])] ∧ leH h [] ∧ r = spec_l27Log.res a0 y ∧ h1 = spec_l27Log.out a0 y
theorem spec_l27Log.call {ar : List AV} {h : List (Option LB)} {a0 : Log} {y : Bool} (H : spec_l27Log a0 = some y) (h0 : leLk ar [(.agg [(.v (.string a0.1)), (.v (.string a0.2.1)), (.v (.int .i64 a0.2.2.1))])] (leHk h [])) : spec_l27Log.S ar h (spec_l27Log.res a0 y) (spec_l27Log.out a0 y) := ⟨a0, y, H, (args_ok h0).1, (args_ok h0).2, rfl, rfl⟩
set_option maxHeartbeats 100000000 in
set_option maxRecDepth 100000 in
theorem spec_l27Log.spec (a0 : Log) (y : Bool) (H : spec_l27Log a0 = some y) : Spec Tryd.prog 26 [(.agg [(.v (.string a0.1)), (.v (.string a0.2.1)), (.v (.int .i64 a0.2.2.1))])] [] (spec_l27Log.res a0 y) (spec_l27Log.out a0 y) := by
  refine spec_intro (G22_ok.at tok []) (ct := [(4, some [1, 3, 4, 40, 41, 42, 43, 44, 47, 48, 49, 50, 51])]) Tryd.func26 rfl (by kernel_rfl) (by kernel_rfl) rfl ?_
  repeat' first
    | ((with_reducible refine eqg ?_); exact rfl)
    | ((with_reducible refine KOb.mk ?_); kernel_rfl)
    | ((with_reducible intro h); (repeat (first | replace H := grd_k H | replace H := out_step H (by assumption))); first | replace H := cond_t h H | replace H := cond_f h H | exact absurd h (by decide) | skip)
    | ((with_reducible refine Ob.mk ?_); first | (with_reducible rfl) | (first | ((repeat (first | (with_reducible exact grd_p H) | (replace H := grd_k H) | (replace H := out_step H (by assumption)))); done) | rfl | ((repeat (first | exact grd_p H | replace H := grd_k H | replace H := out_step H (by assumption))); done) | ((repeat (first | exact grd_p H | (have hp := grd_p H; exact hp) | replace H := grd_k H | replace H := out_step H (by assumption) | (replace H := bind_some H; obtain ⟨_, _, H⟩ := H))); done) | (repeat (first | exact grd_p H | replace H := grd_k H | replace H := out_step H (by assumption)))))
    | (with_reducible exact True.intro)
    | constructor
    | ((conv => whnf); first
        | ((with_reducible refine Ob.mk ?_); first | (with_reducible rfl) | (first | ((repeat (first | (with_reducible exact grd_p H) | (replace H := grd_k H) | (replace H := out_step H (by assumption)))); done) | rfl | ((repeat (first | exact grd_p H | replace H := grd_k H | replace H := out_step H (by assumption))); done) | ((repeat (first | exact grd_p H | (have hp := grd_p H; exact hp) | replace H := grd_k H | replace H := out_step H (by assumption) | (replace H := bind_some H; obtain ⟨_, _, H⟩ := H))); done) | (repeat (first | exact grd_p H | replace H := grd_k H | replace H := out_step H (by assumption)))))
        | ((with_reducible refine CallW.mk ?_); (repeat (first | replace H := grd_k H | replace H := out_step H (by assumption))); replace H := bind_some H; obtain ⟨y, hy, H⟩ := H; first | ((with_reducible have hz : spec_l27Open _ = some y := hy); clear hz; refine Exists.intro _ (Exists.intro _ ⟨spec_l27Open.call hy ?_, rfl, rfl, ?_⟩)))
        | ((with_reducible refine fin_mk ?_); (repeat (first | replace H := grd_k H | replace H := out_step H (by assumption))); have H := Option.some.inj H; subst H))
def G23 : Env := G22.add 26 [] spec_l27Log.S
theorem G23_ok : EnvOk Tryd.prog G23 := G22_ok.add ent_26 fun ar h r h1 ⟨a0, y, hy, e1, e2, e3, e4⟩ => by
  subst e3 e4; exact (spec_l27Log.spec a0 y hy).le e1 e2
attribute [local irreducible] spec_l27Log

noncomputable def spec_l28Good (a0 : Console) : Option (Bool) :=
  ((spec_l25Good (a0.1.1, a0.1.2.1, a0.1.2.2.1, a0.1.2.2.2.1, a0.1.2.2.2.2.1, ())).bind fun y1 => (cond y1 ((spec_l27Log (a0.2.1.1, a0.2.1.2.1, a0.2.1.2.2.1, ())).bind fun y2 => (some y2)) ((some false))))
def spec_l28Good.res (_ : Console) (y : Bool) : AV := (.bl y)
def spec_l28Good.out (_ : Console) (_ : Bool) : List (Option LB) := []
def spec_l28Good.S (ar : List AV) (h : List (Option LB)) (r : AV) (h1 : List (Option LB)) : Prop := ∃ a0 y, spec_l28Good a0 = some y ∧ leL ar [(.agg [(.v (.int .i64 a0.1.1)), (.tree ty_Slot a0.1.2.1), (.v (.int .i64 a0.1.2.2.1)), (.v (.int .i64 a0.1.2.2.2.1)), (.v (.int .i64 a0.1.2.2.2.2.1)), (.v (.string a0.2.1.1)), (.v (.string a0.2.1.2.1)), (.v (.int .i64 a0.2.1.2.2.1))])] ∧ leH h [] ∧ r = spec_l28Good.res a0 y ∧ h1 = spec_l28Good.out a0 y
theorem spec_l28Good.call {ar : List AV} {h : List (Option LB)} {a0 : Console} {y : Bool} (H : spec_l28Good a0 = some y) (h0 : leLk ar [(.agg [(.v (.int .i64 a0.1.1)), (.tree ty_Slot a0.1.2.1), (.v (.int .i64 a0.1.2.2.1)), (.v (.int .i64 a0.1.2.2.2.1)), (.v (.int .i64 a0.1.2.2.2.2.1)), (.v (.string a0.2.1.1)), (.v (.string a0.2.1.2.1)), (.v (.int .i64 a0.2.1.2.2.1))])] (leHk h [])) : spec_l28Good.S ar h (spec_l28Good.res a0 y) (spec_l28Good.out a0 y) := ⟨a0, y, H, (args_ok h0).1, (args_ok h0).2, rfl, rfl⟩
set_option maxHeartbeats 100000000 in
set_option maxRecDepth 100000 in
theorem spec_l28Good.spec (a0 : Console) (y : Bool) (H : spec_l28Good a0 = some y) : Spec Tryd.prog 14 [(.agg [(.v (.int .i64 a0.1.1)), (.tree ty_Slot a0.1.2.1), (.v (.int .i64 a0.1.2.2.1)), (.v (.int .i64 a0.1.2.2.2.1)), (.v (.int .i64 a0.1.2.2.2.2.1)), (.v (.string a0.2.1.1)), (.v (.string a0.2.1.2.1)), (.v (.int .i64 a0.2.1.2.2.1))])] [] (spec_l28Good.res a0 y) (spec_l28Good.out a0 y) := by
  refine spec_intro (G23_ok.at tok []) (ct := []) Tryd.func14 rfl (by kernel_rfl) (by kernel_rfl) rfl ?_
  repeat' first
    | ((with_reducible refine eqg ?_); exact rfl)
    | ((with_reducible refine KOb.mk ?_); kernel_rfl)
    | ((with_reducible intro h); (repeat (first | replace H := grd_k H | replace H := out_step H (by assumption))); first | replace H := cond_t h H | replace H := cond_f h H | exact absurd h (by decide) | skip)
    | ((with_reducible refine Ob.mk ?_); first | (with_reducible rfl) | (first | ((repeat (first | (with_reducible exact grd_p H) | (replace H := grd_k H) | (replace H := out_step H (by assumption)))); done) | rfl | ((repeat (first | exact grd_p H | replace H := grd_k H | replace H := out_step H (by assumption))); done) | ((repeat (first | exact grd_p H | (have hp := grd_p H; exact hp) | replace H := grd_k H | replace H := out_step H (by assumption) | (replace H := bind_some H; obtain ⟨_, _, H⟩ := H))); done) | (repeat (first | exact grd_p H | replace H := grd_k H | replace H := out_step H (by assumption)))))
    | (with_reducible exact True.intro)
    | constructor
    | ((conv => whnf); first
        | ((with_reducible refine Ob.mk ?_); first | (with_reducible rfl) | (first | ((repeat (first | (with_reducible exact grd_p H) | (replace H := grd_k H) | (replace H := out_step H (by assumption)))); done) | rfl | ((repeat (first | exact grd_p H | replace H := grd_k H | replace H := out_step H (by assumption))); done) | ((repeat (first | exact grd_p H | (have hp := grd_p H; exact hp) | replace H := grd_k H | replace H := out_step H (by assumption) | (replace H := bind_some H; obtain ⟨_, _, H⟩ := H))); done) | (repeat (first | exact grd_p H | replace H := grd_k H | replace H := out_step H (by assumption)))))
        | ((with_reducible refine CallW.mk ?_); (repeat (first | replace H := grd_k H | replace H := out_step H (by assumption))); replace H := bind_some H; obtain ⟨y, hy, H⟩ := H; first | ((with_reducible have hz : spec_l25Good _ = some y := hy); clear hz; refine Exists.intro _ (Exists.intro _ ⟨spec_l25Good.call hy ?_, rfl, rfl, ?_⟩)) | ((with_reducible have hz : spec_l27Log _ = some y := hy); clear hz; refine Exists.intro _ (Exists.intro _ ⟨spec_l27Log.call hy ?_, rfl, rfl, ?_⟩)))
        | ((with_reducible refine fin_mk ?_); (repeat (first | replace H := grd_k H | replace H := out_step H (by assumption))); have H := Option.some.inj H; subst H))
def G24 : Env := G23.add 14 [] spec_l28Good.S
theorem G24_ok : EnvOk Tryd.prog G24 := G23_ok.add ent_14 fun ar h r h1 ⟨a0, y, hy, e1, e2, e3, e4⟩ => by
  subst e3 e4; exact (spec_l28Good.spec a0 y hy).le e1 e2
attribute [local irreducible] spec_l28Good

noncomputable def spec_FormatConsole_loop1 (a0 : Console) (v10 : ByteArray) (v11 : Int) : Option (Lp (ByteArray × Int) ((ByteArray))) :=
  (cond (decide (v11 < (a0.1.2.1.length : Int))) ((cond (decide ((0 : Int) < v11)) (grd (v10.size + (ByteArray.mk #[32]).size ≤ 9223372036854775807) ((some (v10 ++ (ByteArray.mk #[32]))))) ((some v10))).bind fun z12 => (grd (0 ≤ v11 ∧ v11 < (a0.1.2.1.length : Int)) (cond (decide (((a0.1.2.1.getD v11.toNat d_Slot).1) = (0 : Int))) (grd (z12.size + (ByteArray.mk #[45]).size ≤ 9223372036854775807) (some (.go ((z12 ++ (ByteArray.mk #[45])), (w64 (v11 + (1 : Int))))))) ((spec_l1Num ((a0.1.2.1.getD v11.toNat d_Slot).1)).bind fun y13 => (grd (z12.size + y13.size ≤ 9223372036854775807) (grd ((z12 ++ y13).size + (ByteArray.mk #[47]).size ≤ 9223372036854775807) ((spec_l1Num ((a0.1.2.1.getD v11.toNat d_Slot).2.2.1)).bind fun y14 => (grd (((z12 ++ y13) ++ (ByteArray.mk #[47])).size + y14.size ≤ 9223372036854775807) (cond ((a0.1.2.1.getD v11.toNat d_Slot).2.1) (grd ((((z12 ++ y13) ++ (ByteArray.mk #[47])) ++ y14).size + (ByteArray.mk #[42]).size ≤ 9223372036854775807) (some (.go (((((z12 ++ y13) ++ (ByteArray.mk #[47])) ++ y14) ++ (ByteArray.mk #[42])), (w64 (v11 + (1 : Int))))))) (some (.go ((((z12 ++ y13) ++ (ByteArray.mk #[47])) ++ y14), (w64 (v11 + (1 : Int))))))))))))))) ((some (.out v10))))
noncomputable def spec_FormatConsole (a0 : Console) : Option (ByteArray × Bool) :=
  ((spec_l28Good ((a0.1.1, a0.1.2.1, a0.1.2.2.1, a0.1.2.2.2.1, a0.1.2.2.2.2.1, ()), (a0.2.1.1, a0.2.1.2.1, a0.2.1.2.2.1, ()), ())).bind fun y1 => (cond (!y1) ((some ((ByteArray.mk #[]), false))) ((iter (fun s => spec_FormatConsole_loop1 a0 s.1 s.2) ((ByteArray.mk #[]), (0 : Int))).bind (fun r15 => (grd (r15.size + (ByteArray.mk #[10, 119, 97, 105, 116, 32]).size ≤ 9223372036854775807) ((spec_l1Num a0.1.2.2.1).bind fun y16 => (grd ((r15 ++ (ByteArray.mk #[10, 119, 97, 105, 116, 32])).size + y16.size ≤ 9223372036854775807) (grd (((r15 ++ (ByteArray.mk #[10, 119, 97, 105, 116, 32])) ++ y16).size + (ByteArray.mk #[59, 32, 116, 111, 112, 32]).size ≤ 9223372036854775807) ((spec_l1Num a0.1.2.2.2.1).bind fun y17 => (grd ((((r15 ++ (ByteArray.mk #[10, 119, 97, 105, 116, 32])) ++ y16) ++ (ByteArray.mk #[59, 32, 116, 111, 112, 32])).size + y17.size ≤ 9223372036854775807) (grd (((((r15 ++ (ByteArray.mk #[10, 119, 97, 105, 116, 32])) ++ y16) ++ (ByteArray.mk #[59, 32, 116, 111, 112, 32])) ++ y17).size + (ByteArray.mk #[59, 32, 100, 111, 119, 110, 32]).size ≤ 9223372036854775807) ((spec_l1Num a0.1.2.2.2.2.1).bind fun y18 => (grd ((((((r15 ++ (ByteArray.mk #[10, 119, 97, 105, 116, 32])) ++ y16) ++ (ByteArray.mk #[59, 32, 116, 111, 112, 32])) ++ y17) ++ (ByteArray.mk #[59, 32, 100, 111, 119, 110, 32])).size + y18.size ≤ 9223372036854775807) (grd (((((((r15 ++ (ByteArray.mk #[10, 119, 97, 105, 116, 32])) ++ y16) ++ (ByteArray.mk #[59, 32, 116, 111, 112, 32])) ++ y17) ++ (ByteArray.mk #[59, 32, 100, 111, 119, 110, 32])) ++ y18).size + (ByteArray.mk #[59, 32, 114, 101, 99, 111, 114, 100, 115, 32]).size ≤ 9223372036854775807) ((spec_l1Num a0.2.1.2.2.1).bind fun y19 => (grd ((((((((r15 ++ (ByteArray.mk #[10, 119, 97, 105, 116, 32])) ++ y16) ++ (ByteArray.mk #[59, 32, 116, 111, 112, 32])) ++ y17) ++ (ByteArray.mk #[59, 32, 100, 111, 119, 110, 32])) ++ y18) ++ (ByteArray.mk #[59, 32, 114, 101, 99, 111, 114, 100, 115, 32])).size + y19.size ≤ 9223372036854775807) (grd (((((((((r15 ++ (ByteArray.mk #[10, 119, 97, 105, 116, 32])) ++ y16) ++ (ByteArray.mk #[59, 32, 116, 111, 112, 32])) ++ y17) ++ (ByteArray.mk #[59, 32, 100, 111, 119, 110, 32])) ++ y18) ++ (ByteArray.mk #[59, 32, 114, 101, 99, 111, 114, 100, 115, 32])) ++ y19).size + (ByteArray.mk #[10]).size ≤ 9223372036854775807) ((some ((((((((((r15 ++ (ByteArray.mk #[10, 119, 97, 105, 116, 32])) ++ y16) ++ (ByteArray.mk #[59, 32, 116, 111, 112, 32])) ++ y17) ++ (ByteArray.mk #[59, 32, 100, 111, 119, 110, 32])) ++ y18) ++ (ByteArray.mk #[59, 32, 114, 101, 99, 111, 114, 100, 115, 32])) ++ y19) ++ (ByteArray.mk #[10])), true))))))))))))))))))))
def spec_FormatConsole.res (_ : Console) (y : ByteArray × Bool) : AV := (.tup [(.v (.string y.1)), (.bl y.2)])
def spec_FormatConsole.out (_ : Console) (_ : ByteArray × Bool) : List (Option LB) := []
def spec_FormatConsole.S (ar : List AV) (h : List (Option LB)) (r : AV) (h1 : List (Option LB)) : Prop := ∃ a0 y, spec_FormatConsole a0 = some y ∧ leL ar [(.agg [(.v (.int .i64 a0.1.1)), (.tree ty_Slot a0.1.2.1), (.v (.int .i64 a0.1.2.2.1)), (.v (.int .i64 a0.1.2.2.2.1)), (.v (.int .i64 a0.1.2.2.2.2.1)), (.v (.string a0.2.1.1)), (.v (.string a0.2.1.2.1)), (.v (.int .i64 a0.2.1.2.2.1))])] ∧ leH h [] ∧ r = spec_FormatConsole.res a0 y ∧ h1 = spec_FormatConsole.out a0 y
theorem spec_FormatConsole.call {ar : List AV} {h : List (Option LB)} {a0 : Console} {y : ByteArray × Bool} (H : spec_FormatConsole a0 = some y) (h0 : leLk ar [(.agg [(.v (.int .i64 a0.1.1)), (.tree ty_Slot a0.1.2.1), (.v (.int .i64 a0.1.2.2.1)), (.v (.int .i64 a0.1.2.2.2.1)), (.v (.int .i64 a0.1.2.2.2.2.1)), (.v (.string a0.2.1.1)), (.v (.string a0.2.1.2.1)), (.v (.int .i64 a0.2.1.2.2.1))])] (leHk h [])) : spec_FormatConsole.S ar h (spec_FormatConsole.res a0 y) (spec_FormatConsole.out a0 y) := ⟨a0, y, H, (args_ok h0).1, (args_ok h0).2, rfl, rfl⟩
set_option maxHeartbeats 100000000 in
set_option maxRecDepth 100000 in
theorem spec_FormatConsole.spec (a0 : Console) (y : ByteArray × Bool) (H : spec_FormatConsole a0 = some y) : Spec Tryd.prog 10 [(.agg [(.v (.int .i64 a0.1.1)), (.tree ty_Slot a0.1.2.1), (.v (.int .i64 a0.1.2.2.1)), (.v (.int .i64 a0.1.2.2.2.1)), (.v (.int .i64 a0.1.2.2.2.2.1)), (.v (.string a0.2.1.1)), (.v (.string a0.2.1.2.1)), (.v (.int .i64 a0.2.1.2.2.1))])] [] (spec_FormatConsole.res a0 y) (spec_FormatConsole.out a0 y) := by
  refine spec_intro (G24_ok.at tok []) (ct := [(10, none), (14, some [1, 4, 5, 6, 7]), (16, some [1, 4, 5])]) Tryd.func10 rfl (by kernel_rfl) (by kernel_rfl) rfl ?_
  repeat' first
    | ((with_reducible refine eqg ?_); exact rfl)
    | ((with_reducible refine KOb.mk ?_); kernel_rfl)
    | ((with_reducible intro h); (repeat (first | replace H := grd_k H | replace H := out_step H (by assumption))); first | replace H := cond_t h H | replace H := cond_f h H | exact absurd h (by decide) | skip)
    | ((with_reducible refine Ob.mk ?_); first | (with_reducible rfl) | (first | ((repeat (first | (with_reducible exact grd_p H) | (replace H := grd_k H) | (replace H := out_step H (by assumption)))); done) | rfl | ((repeat (first | exact grd_p H | replace H := grd_k H | replace H := out_step H (by assumption))); done) | ((repeat (first | exact grd_p H | (have hp := grd_p H; exact hp) | replace H := grd_k H | replace H := out_step H (by assumption) | (replace H := bind_some H; obtain ⟨_, _, H⟩ := H))); done) | (repeat (first | exact grd_p H | replace H := grd_k H | replace H := out_step H (by assumption)))))
    | (with_reducible exact True.intro)
    | constructor
    | ((conv => whnf); first
        | ((with_reducible refine Ob.mk ?_); first | (with_reducible rfl) | (first | ((repeat (first | (with_reducible exact grd_p H) | (replace H := grd_k H) | (replace H := out_step H (by assumption)))); done) | rfl | ((repeat (first | exact grd_p H | replace H := grd_k H | replace H := out_step H (by assumption))); done) | ((repeat (first | exact grd_p H | (have hp := grd_p H; exact hp) | replace H := grd_k H | replace H := out_step H (by assumption) | (replace H := bind_some H; obtain ⟨_, _, H⟩ := H))); done) | (repeat (first | exact grd_p H | replace H := grd_k H | replace H := out_step H (by assumption)))))
        | ((with_reducible refine CallW.mk ?_); (repeat (first | replace H := grd_k H | replace H := out_step H (by assumption))); replace H := bind_some H; obtain ⟨y, hy, H⟩ := H; first | ((with_reducible have hz : spec_l28Good _ = some y := hy); clear hz; refine Exists.intro _ (Exists.intro _ ⟨spec_l28Good.call hy ?_, rfl, rfl, ?_⟩)) | ((with_reducible have hz : spec_l1Num _ = some y := hy); clear hz; refine Exists.intro _ (Exists.intro _ ⟨spec_l1Num.call hy ?_, rfl, rfl, ?_⟩)))
        | ((repeat (first | replace H := grd_k H | replace H := out_step H (by assumption))); refine loop_iter (G24_ok.at tok []) (ct := [(10, none), (14, some [1, 4, 5, 6, 7]), (16, some [1, 4, 5])]) (F := (fun s1 : ByteArray × Int => ⟨sl [(1, (.loc 0 0 0)), (4, (.loc 1 0 0)), (5, (.v (.string s1.1))), (6, (.v (.int .i64 s1.2)))], [some (.box 36 [(.v (.int .i64 a0.1.1)), (.tree ty_Slot a0.1.2.1), (.v (.int .i64 a0.1.2.2.1)), (.v (.int .i64 a0.1.2.2.2.1)), (.v (.int .i64 a0.1.2.2.2.2.1)), (.v (.string a0.2.1.1)), (.v (.string a0.2.1.2.1)), (.v (.int .i64 a0.2.1.2.2.1))]), some (.box 33 [(.v (.int .i64 a0.1.1)), (.tree ty_Slot a0.1.2.1), (.v (.int .i64 a0.1.2.2.1)), (.v (.int .i64 a0.1.2.2.2.1)), (.v (.int .i64 a0.1.2.2.2.2.1))])]⟩)) (step := (fun s : ByteArray × Int => spec_FormatConsole_loop1 _ s.1 s.2)) _ H (by kernel_rfl) (sub_auto ?_) ?_; rotate_left; (intro s1 r v hr H); rotate_right)
        | ((with_reducible refine cutAt (id := 10) ?_); (repeat (first | replace H := grd_k H | replace H := out_step H (by assumption))); first | (replace H := bind_some H; obtain ⟨z, hz, H⟩ := H; refine CutC.mk (id := 10) ⟨sl [(1, (.loc 0 0 0)), (4, (.loc 1 0 0)), (5, (.v (.string z))), (6, (.v (.int .i64 s1.2)))], [some (.box 36 [(.v (.int .i64 a0.1.1)), (.tree ty_Slot a0.1.2.1), (.v (.int .i64 a0.1.2.2.1)), (.v (.int .i64 a0.1.2.2.2.1)), (.v (.int .i64 a0.1.2.2.2.2.1)), (.v (.string a0.2.1.1)), (.v (.string a0.2.1.2.1)), (.v (.int .i64 a0.2.1.2.2.1))]), some (.box 33 [(.v (.int .i64 a0.1.1)), (.tree ty_Slot a0.1.2.1), (.v (.int .i64 a0.1.2.2.1)), (.v (.int .i64 a0.1.2.2.2.1)), (.v (.int .i64 a0.1.2.2.2.2.1))])]⟩ ?_ ?_; (replace H := hz)))
        | ((repeat (first | replace H := grd_k H | replace H := out_step H (by assumption))); have H := Option.some.inj H; subst H; with_reducible refine sub_auto ?_)
        | ((repeat (first | replace H := grd_k H | replace H := out_step H (by assumption))); refine again_step H (by assumption) (sub_auto ?_))
        | ((with_reducible refine fin_mk ?_); (repeat (first | replace H := grd_k H | replace H := out_step H (by assumption))); have H := Option.some.inj H; subst H))
def G25 : Env := G24.add 10 [] spec_FormatConsole.S
theorem G25_ok : EnvOk Tryd.prog G25 := G24_ok.add ent_10 fun ar h r h1 ⟨a0, y, hy, e1, e2, e3, e4⟩ => by
  subst e3 e4; exact (spec_FormatConsole.spec a0 y hy).le e1 e2
attribute [local irreducible] spec_FormatConsole

noncomputable def impl_within (a0 : Int) (a1 : Int) (a2 : Int) : Option (Bool) :=
  (cond (decide (a1 ≤ a0)) ((some (decide (a0 ≤ a2)))) ((some false)))
def impl_within.res (_ : Int) (_ : Int) (_ : Int) (y : Bool) : AV := (.bl y)
def impl_within.out (_ : Int) (_ : Int) (_ : Int) (_ : Bool) : List (Option LB) := []
def impl_within.S (ar : List AV) (h : List (Option LB)) (r : AV) (h1 : List (Option LB)) : Prop := ∃ a0 a1 a2 y, impl_within a0 a1 a2 = some y ∧ leL ar [(.v (.int .i64 a0)), (.v (.int .i64 a1)), (.v (.int .i64 a2))] ∧ leH h [] ∧ r = impl_within.res a0 a1 a2 y ∧ h1 = impl_within.out a0 a1 a2 y
theorem impl_within.call {ar : List AV} {h : List (Option LB)} {a0 : Int} {a1 : Int} {a2 : Int} {y : Bool} (H : impl_within a0 a1 a2 = some y) (h0 : leLk ar [(.v (.int .i64 a0)), (.v (.int .i64 a1)), (.v (.int .i64 a2))] (leHk h [])) : impl_within.S ar h (impl_within.res a0 a1 a2 y) (impl_within.out a0 a1 a2 y) := ⟨a0, a1, a2, y, H, (args_ok h0).1, (args_ok h0).2, rfl, rfl⟩
set_option maxHeartbeats 100000000 in
set_option maxRecDepth 100000 in
theorem impl_within.spec (a0 : Int) (a1 : Int) (a2 : Int) (y : Bool) (H : impl_within a0 a1 a2 = some y) : Spec Tryd.prog 28 [(.v (.int .i64 a0)), (.v (.int .i64 a1)), (.v (.int .i64 a2))] [] (impl_within.res a0 a1 a2 y) (impl_within.out a0 a1 a2 y) := by
  refine spec_intro (G25_ok.at tok []) (ct := []) Tryd.func28 rfl (by kernel_rfl) (by kernel_rfl) rfl ?_
  repeat' first
    | ((with_reducible refine eqg ?_); exact rfl)
    | ((with_reducible refine KOb.mk ?_); kernel_rfl)
    | ((with_reducible intro h); (repeat (first | replace H := grd_k H | replace H := out_step H (by assumption))); first | replace H := cond_t h H | replace H := cond_f h H | exact absurd h (by decide) | skip)
    | ((with_reducible refine Ob.mk ?_); first | (with_reducible rfl) | (first | ((repeat (first | (with_reducible exact grd_p H) | (replace H := grd_k H) | (replace H := out_step H (by assumption)))); done) | rfl | ((repeat (first | exact grd_p H | replace H := grd_k H | replace H := out_step H (by assumption))); done) | ((repeat (first | exact grd_p H | (have hp := grd_p H; exact hp) | replace H := grd_k H | replace H := out_step H (by assumption) | (replace H := bind_some H; obtain ⟨_, _, H⟩ := H))); done) | (repeat (first | exact grd_p H | replace H := grd_k H | replace H := out_step H (by assumption)))))
    | (with_reducible exact True.intro)
    | constructor
    | ((conv => whnf); first
        | ((with_reducible refine Ob.mk ?_); first | (with_reducible rfl) | (first | ((repeat (first | (with_reducible exact grd_p H) | (replace H := grd_k H) | (replace H := out_step H (by assumption)))); done) | rfl | ((repeat (first | exact grd_p H | replace H := grd_k H | replace H := out_step H (by assumption))); done) | ((repeat (first | exact grd_p H | (have hp := grd_p H; exact hp) | replace H := grd_k H | replace H := out_step H (by assumption) | (replace H := bind_some H; obtain ⟨_, _, H⟩ := H))); done) | (repeat (first | exact grd_p H | replace H := grd_k H | replace H := out_step H (by assumption)))))
        | ((with_reducible refine fin_mk ?_); (repeat (first | replace H := grd_k H | replace H := out_step H (by assumption))); have H := Option.some.inj H; subst H))
def G26 : Env := G25.add 28 [] impl_within.S
theorem G26_ok : EnvOk Tryd.prog G26 := G25_ok.add ent_28 fun ar h r h1 ⟨a0, a1, a2, y, hy, e1, e2, e3, e4⟩ => by
  subst e3 e4; exact (impl_within.spec a0 a1 a2 y hy).le e1 e2
attribute [local irreducible] impl_within

noncomputable def impl_Ropeway_isStation (a0 : Ropeway) (a1 : Int) : Option (Bool) :=
  (cond (decide (a1 = (0 : Int))) ((some true)) (grd ((2 : Int) ≠ 0) ((some (decide (a1 = (w64 (Int.tdiv (a0.2.1.length : Int) (2 : Int)))))))))
def impl_Ropeway_isStation.res (_ : Ropeway) (_ : Int) (y : Bool) : AV := (.bl y)
def impl_Ropeway_isStation.out (_ : Ropeway) (_ : Int) (_ : Bool) : List (Option LB) := []
def impl_Ropeway_isStation.S (ar : List AV) (h : List (Option LB)) (r : AV) (h1 : List (Option LB)) : Prop := ∃ a0 a1 y, impl_Ropeway_isStation a0 a1 = some y ∧ leL ar [(.agg [(.v (.int .i64 a0.1)), (.tree ty_Slot a0.2.1), (.v (.int .i64 a0.2.2.1)), (.v (.int .i64 a0.2.2.2.1)), (.v (.int .i64 a0.2.2.2.2.1))]), (.v (.int .i64 a1))] ∧ leH h [] ∧ r = impl_Ropeway_isStation.res a0 a1 y ∧ h1 = impl_Ropeway_isStation.out a0 a1 y
theorem impl_Ropeway_isStation.call {ar : List AV} {h : List (Option LB)} {a0 : Ropeway} {a1 : Int} {y : Bool} (H : impl_Ropeway_isStation a0 a1 = some y) (h0 : leLk ar [(.agg [(.v (.int .i64 a0.1)), (.tree ty_Slot a0.2.1), (.v (.int .i64 a0.2.2.1)), (.v (.int .i64 a0.2.2.2.1)), (.v (.int .i64 a0.2.2.2.2.1))]), (.v (.int .i64 a1))] (leHk h [])) : impl_Ropeway_isStation.S ar h (impl_Ropeway_isStation.res a0 a1 y) (impl_Ropeway_isStation.out a0 a1 y) := ⟨a0, a1, y, H, (args_ok h0).1, (args_ok h0).2, rfl, rfl⟩
set_option maxHeartbeats 100000000 in
set_option maxRecDepth 100000 in
theorem impl_Ropeway_isStation.spec (a0 : Ropeway) (a1 : Int) (y : Bool) (H : impl_Ropeway_isStation a0 a1 = some y) : Spec Tryd.prog 29 [(.agg [(.v (.int .i64 a0.1)), (.tree ty_Slot a0.2.1), (.v (.int .i64 a0.2.2.1)), (.v (.int .i64 a0.2.2.2.1)), (.v (.int .i64 a0.2.2.2.2.1))]), (.v (.int .i64 a1))] [] (impl_Ropeway_isStation.res a0 a1 y) (impl_Ropeway_isStation.out a0 a1 y) := by
  refine spec_intro (G26_ok.at tok []) (ct := []) Tryd.func29 rfl (by kernel_rfl) (by kernel_rfl) rfl ?_
  repeat' first
    | ((with_reducible refine eqg ?_); exact rfl)
    | ((with_reducible refine KOb.mk ?_); kernel_rfl)
    | ((with_reducible intro h); (repeat (first | replace H := grd_k H | replace H := out_step H (by assumption))); first | replace H := cond_t h H | replace H := cond_f h H | exact absurd h (by decide) | skip)
    | ((with_reducible refine Ob.mk ?_); first | (with_reducible rfl) | (first | ((repeat (first | (with_reducible exact grd_p H) | (replace H := grd_k H) | (replace H := out_step H (by assumption)))); done) | rfl | ((repeat (first | exact grd_p H | replace H := grd_k H | replace H := out_step H (by assumption))); done) | ((repeat (first | exact grd_p H | (have hp := grd_p H; exact hp) | replace H := grd_k H | replace H := out_step H (by assumption) | (replace H := bind_some H; obtain ⟨_, _, H⟩ := H))); done) | (repeat (first | exact grd_p H | replace H := grd_k H | replace H := out_step H (by assumption)))))
    | (with_reducible exact True.intro)
    | constructor
    | ((conv => whnf); first
        | ((with_reducible refine Ob.mk ?_); first | (with_reducible rfl) | (first | ((repeat (first | (with_reducible exact grd_p H) | (replace H := grd_k H) | (replace H := out_step H (by assumption)))); done) | rfl | ((repeat (first | exact grd_p H | replace H := grd_k H | replace H := out_step H (by assumption))); done) | ((repeat (first | exact grd_p H | (have hp := grd_p H; exact hp) | replace H := grd_k H | replace H := out_step H (by assumption) | (replace H := bind_some H; obtain ⟨_, _, H⟩ := H))); done) | (repeat (first | exact grd_p H | replace H := grd_k H | replace H := out_step H (by assumption)))))
        | ((with_reducible refine fin_mk ?_); (repeat (first | replace H := grd_k H | replace H := out_step H (by assumption))); have H := Option.some.inj H; subst H))
def G27 : Env := G26.add 29 [] impl_Ropeway_isStation.S
theorem G27_ok : EnvOk Tryd.prog G27 := G26_ok.add ent_29 fun ar h r h1 ⟨a0, a1, y, hy, e1, e2, e3, e4⟩ => by
  subst e3 e4; exact (impl_Ropeway_isStation.spec a0 a1 y hy).le e1 e2
attribute [local irreducible] impl_Ropeway_isStation

noncomputable def impl_IsRopeway_1_i1 (a0 : Slot) (a100 : Int) (_ : Bool) (_ : Int) : Option (Bool) :=
  (some (decide (a0.1 = a100)))
def impl_IsRopeway_1_i1.res (_ : Slot) (_ : Int) (_ : Bool) (_ : Int) (y : Bool) : AV := (.bl y)
def impl_IsRopeway_1_i1.out (_ : Slot) (_ : Int) (_ : Bool) (_ : Int) (_ : Bool) : List (Option LB) := []
def impl_IsRopeway_1_i1.S (ar : List AV) (h : List (Option LB)) (r : AV) (h1 : List (Option LB)) : Prop := ∃ a0 a100 a101 a102 y, impl_IsRopeway_1_i1 a0 a100 a101 a102 = some y ∧ leL ar [(.agg [(.v (.int .i64 a0.1)), (.bl a0.2.1), (.v (.int .i64 a0.2.2.1))]), (.bptr [(.v (.int .i64 a100)), (.bl a101), (.v (.int .i64 a102))] 0)] ∧ leH h [] ∧ r = impl_IsRopeway_1_i1.res a0 a100 a101 a102 y ∧ h1 = impl_IsRopeway_1_i1.out a0 a100 a101 a102 y
theorem impl_IsRopeway_1_i1.call {ar : List AV} {h : List (Option LB)} {a0 : Slot} {a100 : Int} {a101 : Bool} {a102 : Int} {y : Bool} (H : impl_IsRopeway_1_i1 a0 a100 a101 a102 = some y) (h0 : leLk ar [(.agg [(.v (.int .i64 a0.1)), (.bl a0.2.1), (.v (.int .i64 a0.2.2.1))]), (.bptr [(.v (.int .i64 a100)), (.bl a101), (.v (.int .i64 a102))] 0)] (leHk h [])) : impl_IsRopeway_1_i1.S ar h (impl_IsRopeway_1_i1.res a0 a100 a101 a102 y) (impl_IsRopeway_1_i1.out a0 a100 a101 a102 y) := ⟨a0, a100, a101, a102, y, H, (args_ok h0).1, (args_ok h0).2, rfl, rfl⟩
set_option maxHeartbeats 100000000 in
set_option maxRecDepth 100000 in
theorem impl_IsRopeway_1_i1.spec (a0 : Slot) (a100 : Int) (a101 : Bool) (a102 : Int) (y : Bool) (H : impl_IsRopeway_1_i1 a0 a100 a101 a102 = some y) : Spec Tryd.prog 31 [(.agg [(.v (.int .i64 a0.1)), (.bl a0.2.1), (.v (.int .i64 a0.2.2.1))]), (.bptr [(.v (.int .i64 a100)), (.bl a101), (.v (.int .i64 a102))] 0)] [] (impl_IsRopeway_1_i1.res a0 a100 a101 a102 y) (impl_IsRopeway_1_i1.out a0 a100 a101 a102 y) := by
  refine spec_intro (G27_ok.at tok []) (ct := []) Tryd.func31 rfl (by kernel_rfl) (by kernel_rfl) rfl ?_
  repeat' first
    | ((with_reducible refine eqg ?_); exact rfl)
    | ((with_reducible refine KOb.mk ?_); kernel_rfl)
    | ((with_reducible intro h); (repeat (first | replace H := grd_k H | replace H := out_step H (by assumption))); first | replace H := cond_t h H | replace H := cond_f h H | exact absurd h (by decide) | skip)
    | ((with_reducible refine Ob.mk ?_); first | (with_reducible rfl) | (first | ((repeat (first | (with_reducible exact grd_p H) | (replace H := grd_k H) | (replace H := out_step H (by assumption)))); done) | rfl | ((repeat (first | exact grd_p H | replace H := grd_k H | replace H := out_step H (by assumption))); done) | ((repeat (first | exact grd_p H | (have hp := grd_p H; exact hp) | replace H := grd_k H | replace H := out_step H (by assumption) | (replace H := bind_some H; obtain ⟨_, _, H⟩ := H))); done) | (repeat (first | exact grd_p H | replace H := grd_k H | replace H := out_step H (by assumption)))))
    | (with_reducible exact True.intro)
    | constructor
    | ((conv => whnf); first
        | ((with_reducible refine Ob.mk ?_); first | (with_reducible rfl) | (first | ((repeat (first | (with_reducible exact grd_p H) | (replace H := grd_k H) | (replace H := out_step H (by assumption)))); done) | rfl | ((repeat (first | exact grd_p H | replace H := grd_k H | replace H := out_step H (by assumption))); done) | ((repeat (first | exact grd_p H | (have hp := grd_p H; exact hp) | replace H := grd_k H | replace H := out_step H (by assumption) | (replace H := bind_some H; obtain ⟨_, _, H⟩ := H))); done) | (repeat (first | exact grd_p H | replace H := grd_k H | replace H := out_step H (by assumption)))))
        | ((with_reducible refine fin_mk ?_); (repeat (first | replace H := grd_k H | replace H := out_step H (by assumption))); have H := Option.some.inj H; subst H))
def G28 : Env := G27.add 31 [] impl_IsRopeway_1_i1.S
theorem G28_ok : EnvOk Tryd.prog G28 := G27_ok.add ent_31 fun ar h r h1 ⟨a0, a100, a101, a102, y, hy, e1, e2, e3, e4⟩ => by
  subst e3 e4; exact (impl_IsRopeway_1_i1.spec a0 a100 a101 a102 y hy).le e1 e2
attribute [local irreducible] impl_IsRopeway_1_i1

end Go.Proofs.YtdlngdmdebpadaaDoor
