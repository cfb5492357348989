/-
  Contracts, printed by a program.
-/
import Derived.Test.YtppiaacfnoifkaaDoorC632
namespace Go.Proofs.YtppiaacfnoifkaaDoor
open Go.RowKit
attribute [local irreducible] Ob loopwp Sub Spec Fin Again CallW CutC KOb iter joinx outm

attribute [local irreducible] laws_szLog laws_toLog spec_l1Split spec_l1Num spec_l1Num_f spec_l1In spec_l27Plain spec_l1Stands spec_l27Good spec_l1Sum spec_l1Seal spec_l27Line spec_l27Read

noncomputable def spec_l27Open_loop1 (a0 : ByteArray) (v9 : Int) (v10 : (List LogRecord)) : Option (Lp (Int × (List LogRecord)) ((Int × (List LogRecord)))) :=
  (cond (decide (v9 < (a0.size : Int))) (cond (decide ((v10.length : Int) < (60 : Int))) (grd (0 ≤ v9 ∧ v9 ≤ (a0.size : Int) ∧ (a0.size : Int) ≤ (a0.size : Int)) ((spec_l1Split (bsub a0 v9 (a0.size : Int)) (10 : Int)).bind fun y11 => (grd (0 ≤ (0 : Int) ∧ (0 : Int) < (y11.length : Int)) ((spec_l27Read (y11.getD ((0 : Int).toNat) (ByteArray.mk #[])) (v10.length : Int)).bind fun y12 => (cond (decide ((y11.length : Int) < (2 : Int))) ((some (.out (v9, v10)))) (cond (!y12.2) ((some (.out (v9, v10)))) (grd (v10.length + [(y12.1.1, y12.1.2.1, ())].length ≤ 140737488355328 / 32 ∧ v10.length + [(y12.1.1, y12.1.2.1, ())].length ≤ 140737488355328) (grd (0 ≤ (0 : Int) ∧ (0 : Int) < (y11.length : Int)) (some (.go ((w64 ((w64 (v9 + ((y11.getD ((0 : Int).toNat) (ByteArray.mk #[])).size : Int))) + (1 : Int))), (v10 ++ [(y12.1.1, y12.1.2.1, ())])))))))))))) ((some (.out (v9, v10))))) ((some (.out (v9, v10)))))
noncomputable def spec_l27Open (a0 : ByteArray) : Option ((List LogRecord) × Int) :=
  ((iter (fun s => spec_l27Open_loop1 a0 s.1 s.2) ((0 : Int), ([] : List LogRecord))).bind (fun r13 => (some (r13.2, r13.1))))
def spec_l27Open.res (_ : ByteArray) (y : (List LogRecord) × Int) : AV := (.tup [(.own 0), (.v (.int .i64 y.2))])
def spec_l27Open.out (_ : ByteArray) (y : (List LogRecord) × Int) : List (Option LB) := [some (.arr 39 ty_LogRecord y.1)]
def spec_l27Open.S (ar : List AV) (h : List (Option LB)) (r : AV) (h1 : List (Option LB)) : Prop := ∃ a0 y, spec_l27Open a0 = some y ∧ leL ar [(.v (.string a0))] ∧ leH h [] ∧ r = spec_l27Open.res a0 y ∧ h1 = spec_l27Open.out a0 y
theorem spec_l27Open.call {ar : List AV} {h : List (Option LB)} {a0 : ByteArray} {y : (List LogRecord) × Int} (H : spec_l27Open a0 = some y) (h0 : leLk ar [(.v (.string a0))] (leHk h [])) : spec_l27Open.S ar h (spec_l27Open.res a0 y) (spec_l27Open.out a0 y) := ⟨a0, y, H, (args_ok h0).1, (args_ok h0).2, rfl, rfl⟩
set_option maxHeartbeats 100000000 in
set_option maxRecDepth 100000 in
theorem spec_l27Open.spec (a0 : ByteArray) (y : (List LogRecord) × Int) (H : spec_l27Open a0 = some y) : Spec Tryd.prog 56 [(.v (.string a0))] [] (spec_l27Open.res a0 y) (spec_l27Open.out a0 y) := by
  refine spec_intro (G12_ok.at tok []) (ct := [(5, some [0, 4, 5, 6, 15, 16, 17, 36, 37]), (7, some [0, 4, 5, 6, 7, 15, 16, 17, 36, 37])]) Tryd.func56 rfl (by kernel_rfl) (by kernel_rfl) rfl ?_
  repeat' first
    | ((with_reducible refine eqg ?_); exact rfl)
    | ((with_reducible refine KOb.mk ?_); kernel_rfl)
    | ((with_reducible intro h); (repeat (first | replace H := grd_k H | replace H := out_step H (by assumption))); first | replace H := cond_t h H | replace H := cond_f h H | exact absurd h (by decide) | skip)
    | ((with_reducible refine Ob.mk ?_); first | (with_reducible rfl) | (first | ((repeat (first | (with_reducible exact grd_p H) | (replace H := grd_k H) | (replace H := out_step H (by assumption)))); done) | rfl | ((repeat (first | exact grd_p H | replace H := grd_k H | replace H := out_step H (by assumption))); done) | ((repeat (first | exact grd_p H | (have hp := grd_p H; exact hp) | replace H := grd_k H | replace H := out_step H (by assumption) | (replace H := bind_some H; obtain ⟨_, _, H⟩ := H))); done) | (repeat (first | exact grd_p H | replace H := grd_k H | replace H := out_step H (by assumption)))))
    | (with_reducible exact True.intro)
    | ((conv => whnf); first
        | (with_reducible refine And.intro ?_ ?_)
        | (with_reducible exact True.intro)
        | ((with_reducible refine Ob.mk ?_); first | (with_reducible rfl) | (first | ((repeat (first | (with_reducible exact grd_p H) | (replace H := grd_k H) | (replace H := out_step H (by assumption)))); done) | rfl | ((repeat (first | exact grd_p H | replace H := grd_k H | replace H := out_step H (by assumption))); done) | ((repeat (first | exact grd_p H | (have hp := grd_p H; exact hp) | replace H := grd_k H | replace H := out_step H (by assumption) | (replace H := bind_some H; obtain ⟨_, _, H⟩ := H))); done) | (repeat (first | exact grd_p H | replace H := grd_k H | replace H := out_step H (by assumption)))))
        | ((with_reducible refine CallW.mk ?_); (repeat (first | replace H := grd_k H | replace H := out_step H (by assumption))); replace H := bind_some H; obtain ⟨y, hy, H⟩ := H; first | ((with_reducible have hz : spec_l1Split _ _ = some y := hy); clear hz; refine Exists.intro _ (Exists.intro _ ⟨spec_l1Split.call hy ?_, rfl, rfl, ?_⟩)) | ((with_reducible have hz : spec_l27Read _ _ = some y := hy); clear hz; refine Exists.intro _ (Exists.intro _ ⟨spec_l27Read.call hy ?_, rfl, rfl, ?_⟩)))
        | ((repeat (first | replace H := grd_k H | replace H := out_step H (by assumption))); refine loop_iter (G12_ok.at tok []) (ct := [(5, some [0, 4, 5, 6, 15, 16, 17, 36, 37]), (7, some [0, 4, 5, 6, 7, 15, 16, 17, 36, 37])]) (F := (fun s1 : Int × (List LogRecord) => ⟨sl [(0, (.v (.string a0))), (4, (.own 0)), (5, (.v (.int .i64 s1.1)))], [some (.arr 39 ty_LogRecord s1.2)]⟩)) (step := (fun s : Int × (List LogRecord) => spec_l27Open_loop1 _ s.1 s.2)) _ H (by kernel_rfl) (sub_auto ?_) ?_; rotate_left; (intro s1 r v hr H); rotate_right)
        | ((repeat (first | replace H := grd_k H | replace H := out_step H (by assumption))); refine again_step H (by assumption) (sub_auto ?_))
        | ((with_reducible refine fin_mk ?_); (repeat (first | replace H := grd_k H | replace H := out_step H (by assumption))); have H := Option.some.inj H; subst H))
    | constructor
def G13 : Env := G12.add 56 [] spec_l27Open.S
theorem G13_ok : EnvOk Tryd.prog G13 := G12_ok.add ent_56 fun ar h r h1 ⟨a0, y, hy, e1, e2, e3, e4⟩ => by
  subst e3 e4; exact (spec_l27Open.spec a0 y hy).le e1 e2
attribute [local irreducible] spec_l27Open

noncomputable def spec_l27Log (a0 : Log) : Option (Bool) :=
  (cond (decide ((30000 : Int) < (w64 ((a0.1.size : Int) + (a0.2.1.size : Int))))) ((some false)) (grd (a0.1.size + a0.2.1.size ≤ 9223372036854775807) ((spec_l27Open (a0.1 ++ a0.2.1)).bind fun y1 => ((spec_l27Open a0.1).bind fun y2 => (cond (decide (y1.2 = (w64 ((a0.1.size : Int) + (a0.2.1.size : Int))))) (cond (decide (y2.2 = (a0.1.size : Int))) ((some (decide ((y1.1.length : Int) = a0.2.2.1)))) ((some false))) ((some false)))))))
def spec_l27Log.res (_ : Log) (y : Bool) : AV := (.bl y)
def spec_l27Log.out (_ : Log) (_ : Bool) : List (Option LB) := []
def spec_l27Log.S (ar : List AV) (h : List (Option LB)) (r : AV) (h1 : List (Option LB)) : Prop := ∃ a0 y, spec_l27Log a0 = some y ∧ leL ar [(.agg [(.v (.string a0.1)), (.v (.string a0.2.1)), (.v (.int .i64 a0.2.2.1))])] ∧ leH h [] ∧ r = spec_l27Log.res a0 y ∧ h1 = spec_l27Log.out a0 y
theorem spec_l27Log.call {ar : List AV} {h : List (Option LB)} {a0 : Log} {y : Bool} (H : spec_l27Log a0 = some y) (h0 : leLk ar [(.agg [(.v (.string a0.1)), (.v (.string a0.2.1)), (.v (.int .i64 a0.2.2.1))])] (leHk h [])) : spec_l27Log.S ar h (spec_l27Log.res a0 y) (spec_l27Log.out a0 y) := ⟨a0, y, H, (args_ok h0).1, (args_ok h0).2, rfl, rfl⟩
set_option maxHeartbeats 100000000 in
set_option maxRecDepth 100000 in
theorem spec_l27Log.spec (a0 : Log) (y : Bool) (H : spec_l27Log a0 = some y) : Spec Tryd.prog 48 [(.agg [(.v (.string a0.1)), (.v (.string a0.2.1)), (.v (.int .i64 a0.2.2.1))])] [] (spec_l27Log.res a0 y) (spec_l27Log.out a0 y) := by
  refine spec_intro (G13_ok.at tok []) (ct := [(4, some [1, 3, 4, 40, 41, 42, 43, 44, 47, 48, 49, 50, 51])]) Tryd.func48 rfl (by kernel_rfl) (by kernel_rfl) rfl ?_
  repeat' first
    | ((with_reducible refine eqg ?_); exact rfl)
    | ((with_reducible refine KOb.mk ?_); kernel_rfl)
    | ((with_reducible intro h); (repeat (first | replace H := grd_k H | replace H := out_step H (by assumption))); first | replace H := cond_t h H | replace H := cond_f h H | exact absurd h (by decide) | skip)
    | ((with_reducible refine Ob.mk ?_); first | (with_reducible rfl) | (first | ((repeat (first | (with_reducible exact grd_p H) | (replace H := grd_k H) | (replace H := out_step H (by assumption)))); done) | rfl | ((repeat (first | exact grd_p H | replace H := grd_k H | replace H := out_step H (by assumption))); done) | ((repeat (first | exact grd_p H | (have hp := grd_p H; exact hp) | replace H := grd_k H | replace H := out_step H (by assumption) | (replace H := bind_some H; obtain ⟨_, _, H⟩ := H))); done) | (repeat (first | exact grd_p H | replace H := grd_k H | replace H := out_step H (by assumption)))))
    | (with_reducible exact True.intro)
    | ((conv => whnf); first
        | (with_reducible refine And.intro ?_ ?_)
        | (with_reducible exact True.intro)
        | ((with_reducible refine Ob.mk ?_); first | (with_reducible rfl) | (first | ((repeat (first | (with_reducible exact grd_p H) | (replace H := grd_k H) | (replace H := out_step H (by assumption)))); done) | rfl | ((repeat (first | exact grd_p H | replace H := grd_k H | replace H := out_step H (by assumption))); done) | ((repeat (first | exact grd_p H | (have hp := grd_p H; exact hp) | replace H := grd_k H | replace H := out_step H (by assumption) | (replace H := bind_some H; obtain ⟨_, _, H⟩ := H))); done) | (repeat (first | exact grd_p H | replace H := grd_k H | replace H := out_step H (by assumption)))))
        | ((with_reducible refine CallW.mk ?_); (repeat (first | replace H := grd_k H | replace H := out_step H (by assumption))); replace H := bind_some H; obtain ⟨y, hy, H⟩ := H; first | ((with_reducible have hz : spec_l27Open _ = some y := hy); clear hz; refine Exists.intro _ (Exists.intro _ ⟨spec_l27Open.call hy ?_, rfl, rfl, ?_⟩)))
        | ((with_reducible refine fin_mk ?_); (repeat (first | replace H := grd_k H | replace H := out_step H (by assumption))); have H := Option.some.inj H; subst H))
    | constructor
def G14 : Env := G13.add 48 [] spec_l27Log.S
theorem G14_ok : EnvOk Tryd.prog G14 := G13_ok.add ent_48 fun ar h r h1 ⟨a0, y, hy, e1, e2, e3, e4⟩ => by
  subst e3 e4; exact (spec_l27Log.spec a0 y hy).le e1 e2
attribute [local irreducible] spec_l27Log

noncomputable def spec_CrashLog (a0 : Log) (a1 : Int) (a2 : Bool) : Option (ByteArray × Bool) :=
  ((spec_l27Log (a0.1, a0.2.1, a0.2.2.1, ())).bind fun y1 => (cond (!y1) ((some ((ByteArray.mk #[]), false))) ((spec_l1In a1 (0 : Int) (a0.2.1.size : Int)).bind fun y2 => (cond (!y2) ((some ((ByteArray.mk #[]), false))) (grd (0 ≤ (0 : Int) ∧ (0 : Int) ≤ a1 ∧ a1 ≤ (a0.2.1.size : Int)) (grd ((bsub a0.2.1 (0 : Int) a1).size ≤ 140737488355328) (cond a2 (cond (decide ((0 : Int) < a1)) (grd (0 ≤ (w64 (a1 - (1 : Int))) ∧ (w64 (a1 - (1 : Int))) < ((mkRow (bsub a0.2.1 (0 : Int) a1)).length : Int)) (grd (0 ≤ (w64 (a1 - (1 : Int))) ∧ (w64 (a1 - (1 : Int))) < ((mkRow (bsub a0.2.1 (0 : Int) a1)).length : Int)) (grd (a0.1.size + (strOfN (byteNs ((mkRow (bsub a0.2.1 (0 : Int) a1)).set ((w64 (a1 - (1 : Int))).toNat) ((wu8 ((255 : Int) - (((mkRow (bsub a0.2.1 (0 : Int) a1)).getD ((w64 (a1 - (1 : Int))).toNat) d_mbyte).1))), ())))).size ≤ 9223372036854775807) ((some ((a0.1 ++ (strOfN (byteNs ((mkRow (bsub a0.2.1 (0 : Int) a1)).set ((w64 (a1 - (1 : Int))).toNat) ((wu8 ((255 : Int) - (((mkRow (bsub a0.2.1 (0 : Int) a1)).getD ((w64 (a1 - (1 : Int))).toNat) d_mbyte).1))), ()))))), true)))))) (grd (a0.1.size + (strOfN (byteNs (mkRow (bsub a0.2.1 (0 : Int) a1)))).size ≤ 9223372036854775807) ((some ((a0.1 ++ (strOfN (byteNs (mkRow (bsub a0.2.1 (0 : Int) a1))))), true))))) (grd (a0.1.size + (strOfN (byteNs (mkRow (bsub a0.2.1 (0 : Int) a1)))).size ≤ 9223372036854775807) ((some ((a0.1 ++ (strOfN (byteNs (mkRow (bsub a0.2.1 (0 : Int) a1))))), true)))))))))))
def spec_CrashLog.res (_ : Log) (_ : Int) (_ : Bool) (y : ByteArray × Bool) : AV := (.tup [(.v (.string y.1)), (.bl y.2)])
def spec_CrashLog.out (_ : Log) (_ : Int) (_ : Bool) (_ : ByteArray × Bool) : List (Option LB) := []
def spec_CrashLog.S (ar : List AV) (h : List (Option LB)) (r : AV) (h1 : List (Option LB)) : Prop := ∃ a0 a1 a2 y, spec_CrashLog a0 a1 a2 = some y ∧ leL ar [(.agg [(.v (.string a0.1)), (.v (.string a0.2.1)), (.v (.int .i64 a0.2.2.1))]), (.v (.int .i64 a1)), (.bl a2)] ∧ leH h [] ∧ r = spec_CrashLog.res a0 a1 a2 y ∧ h1 = spec_CrashLog.out a0 a1 a2 y
theorem spec_CrashLog.call {ar : List AV} {h : List (Option LB)} {a0 : Log} {a1 : Int} {a2 : Bool} {y : ByteArray × Bool} (H : spec_CrashLog a0 a1 a2 = some y) (h0 : leLk ar [(.agg [(.v (.string a0.1)), (.v (.string a0.2.1)), (.v (.int .i64 a0.2.2.1))]), (.v (.int .i64 a1)), (.bl a2)] (leHk h [])) : spec_CrashLog.S ar h (spec_CrashLog.res a0 a1 a2 y) (spec_CrashLog.out a0 a1 a2 y) := ⟨a0, a1, a2, y, H, (args_ok h0).1, (args_ok h0).2, rfl, rfl⟩
set_option maxHeartbeats 100000000 in
set_option maxRecDepth 100000 in
theorem spec_CrashLog.spec (a0 : Log) (a1 : Int) (a2 : Bool) (y : ByteArray × Bool) (H : spec_CrashLog a0 a1 a2 = some y) : Spec Tryd.prog 9 [(.agg [(.v (.string a0.1)), (.v (.string a0.2.1)), (.v (.int .i64 a0.2.2.1))]), (.v (.int .i64 a1)), (.bl a2)] [] (spec_CrashLog.res a0 a1 a2 y) (spec_CrashLog.out a0 a1 a2 y) := by
  refine spec_intro (G14_ok.at tok []) (ct := [(2, some [1, 2, 3, 19, 27, 28]), (6, some [3, 8])]) Tryd.func9 rfl (by kernel_rfl) (by kernel_rfl) rfl ?_
  repeat' first
    | ((with_reducible refine eqg ?_); exact rfl)
    | ((with_reducible refine KOb.mk ?_); kernel_rfl)
    | ((with_reducible intro h); (repeat (first | replace H := grd_k H | replace H := out_step H (by assumption))); first | replace H := cond_t h H | replace H := cond_f h H | exact absurd h (by decide) | skip)
    | ((with_reducible refine Ob.mk ?_); first | (with_reducible rfl) | (first | ((repeat (first | (with_reducible exact grd_p H) | (replace H := grd_k H) | (replace H := out_step H (by assumption)))); done) | rfl | ((repeat (first | exact grd_p H | replace H := grd_k H | replace H := out_step H (by assumption))); done) | ((repeat (first | exact grd_p H | (have hp := grd_p H; exact hp) | replace H := grd_k H | replace H := out_step H (by assumption) | (replace H := bind_some H; obtain ⟨_, _, H⟩ := H))); done) | (repeat (first | exact grd_p H | replace H := grd_k H | replace H := out_step H (by assumption)))))
    | (with_reducible exact True.intro)
    | ((conv => whnf); first
        | (with_reducible refine And.intro ?_ ?_)
        | (with_reducible exact True.intro)
        | ((with_reducible refine Ob.mk ?_); first | (with_reducible rfl) | (first | ((repeat (first | (with_reducible exact grd_p H) | (replace H := grd_k H) | (replace H := out_step H (by assumption)))); done) | rfl | ((repeat (first | exact grd_p H | replace H := grd_k H | replace H := out_step H (by assumption))); done) | ((repeat (first | exact grd_p H | (have hp := grd_p H; exact hp) | replace H := grd_k H | replace H := out_step H (by assumption) | (replace H := bind_some H; obtain ⟨_, _, H⟩ := H))); done) | (repeat (first | exact grd_p H | replace H := grd_k H | replace H := out_step H (by assumption)))))
        | ((with_reducible refine CallW.mk ?_); (repeat (first | replace H := grd_k H | replace H := out_step H (by assumption))); replace H := bind_some H; obtain ⟨y, hy, H⟩ := H; first | ((with_reducible have hz : spec_l27Log _ = some y := hy); clear hz; refine Exists.intro _ (Exists.intro _ ⟨spec_l27Log.call hy ?_, rfl, rfl, ?_⟩)) | ((with_reducible have hz : spec_l1In _ _ _ = some y := hy); clear hz; refine Exists.intro _ (Exists.intro _ ⟨spec_l1In.call hy ?_, rfl, rfl, ?_⟩)))
        | ((with_reducible refine fin_mk ?_); (repeat (first | replace H := grd_k H | replace H := out_step H (by assumption))); have H := Option.some.inj H; subst H))
    | constructor
def G15 : Env := G14.add 9 [] spec_CrashLog.S
theorem G15_ok : EnvOk Tryd.prog G15 := G14_ok.add ent_9 fun ar h r h1 ⟨a0, a1, a2, y, hy, e1, e2, e3, e4⟩ => by
  subst e3 e4; exact (spec_CrashLog.spec a0 a1 a2 y hy).le e1 e2
attribute [local irreducible] spec_CrashLog

noncomputable def strings_Cut (a0 : ByteArray) (a1 : ByteArray) : Option (ByteArray × ByteArray × Bool) :=
  (grd (a0.size < 4294967281) ((some ((cutA a0 a1), (cutB a0 a1), (cutF a0 a1)))))
def strings_Cut.res (_ : ByteArray) (_ : ByteArray) (y : ByteArray × ByteArray × Bool) : AV := (.tup [(.v (.string y.1)), (.v (.string y.2.1)), (.bl y.2.2)])
def strings_Cut.out (_ : ByteArray) (_ : ByteArray) (_ : ByteArray × ByteArray × Bool) : List (Option LB) := []
def strings_Cut.S (ar : List AV) (h : List (Option LB)) (r : AV) (h1 : List (Option LB)) : Prop := ∃ a0 a1 y, strings_Cut a0 a1 = some y ∧ leL ar [(.v (.string a0)), (.v (.string a1))] ∧ leH h [] ∧ r = strings_Cut.res a0 a1 y ∧ h1 = strings_Cut.out a0 a1 y
theorem strings_Cut.call {ar : List AV} {h : List (Option LB)} {a0 : ByteArray} {a1 : ByteArray} {y : ByteArray × ByteArray × Bool} (H : strings_Cut a0 a1 = some y) (h0 : leLk ar [(.v (.string a0)), (.v (.string a1))] (leHk h [])) : strings_Cut.S ar h (strings_Cut.res a0 a1 y) (strings_Cut.out a0 a1 y) := ⟨a0, a1, y, H, (args_ok h0).1, (args_ok h0).2, rfl, rfl⟩
theorem strings_Cut.spec (a0 : ByteArray) (a1 : ByteArray) (y : ByteArray × ByteArray × Bool) (H : strings_Cut a0 a1 = some y) : Spec Tryd.prog 84 [(.v (.string a0)), (.v (.string a1))] [] (strings_Cut.res a0 a1 y) (strings_Cut.out a0 a1 y) := by
  have hg := grd_p H
  have H := Option.some.inj (grd_k H)
  subst H
  exact ext_strings_Cut a0 a1 hg
def G16 : Env := G15.add 84 [] strings_Cut.S
theorem G16_ok : EnvOk Tryd.prog G16 := G15_ok.add ent_84 fun ar h r h1 ⟨a0, a1, y, hy, e1, e2, e3, e4⟩ => by
  subst e3 e4; exact (strings_Cut.spec a0 a1 y hy).le e1 e2
attribute [local irreducible] strings_Cut

noncomputable def strings_Contains (a0 : ByteArray) (a1 : ByteArray) : Option (Bool) :=
  (grd (a0.size < 4294967281) ((some (Lib.contains a0.data.toList a1.data.toList))))
def strings_Contains.res (_ : ByteArray) (_ : ByteArray) (y : Bool) : AV := (.bl y)
def strings_Contains.out (_ : ByteArray) (_ : ByteArray) (_ : Bool) : List (Option LB) := []
def strings_Contains.S (ar : List AV) (h : List (Option LB)) (r : AV) (h1 : List (Option LB)) : Prop := ∃ a0 a1 y, strings_Contains a0 a1 = some y ∧ leL ar [(.v (.string a0)), (.v (.string a1))] ∧ leH h [] ∧ r = strings_Contains.res a0 a1 y ∧ h1 = strings_Contains.out a0 a1 y
theorem strings_Contains.call {ar : List AV} {h : List (Option LB)} {a0 : ByteArray} {a1 : ByteArray} {y : Bool} (H : strings_Contains a0 a1 = some y) (h0 : leLk ar [(.v (.string a0)), (.v (.string a1))] (leHk h [])) : strings_Contains.S ar h (strings_Contains.res a0 a1 y) (strings_Contains.out a0 a1 y) := ⟨a0, a1, y, H, (args_ok h0).1, (args_ok h0).2, rfl, rfl⟩
theorem strings_Contains.spec (a0 : ByteArray) (a1 : ByteArray) (y : Bool) (H : strings_Contains a0 a1 = some y) : Spec Tryd.prog 173 [(.v (.string a0)), (.v (.string a1))] [] (strings_Contains.res a0 a1 y) (strings_Contains.out a0 a1 y) := by
  have hg := grd_p H
  have H := Option.some.inj (grd_k H)
  subst H
  exact ext_strings_Contains a0 a1 hg
def G17 : Env := G16.add 173 [] strings_Contains.S
theorem G17_ok : EnvOk Tryd.prog G17 := G16_ok.add ent_173 fun ar h r h1 ⟨a0, a1, y, hy, e1, e2, e3, e4⟩ => by
  subst e3 e4; exact (strings_Contains.spec a0 a1 y hy).le e1 e2
attribute [local irreducible] strings_Contains

noncomputable def impl_checksum_loop1 (a0 : ByteArray) (v3 : Int) (v4 : Int) : Option (Lp (Int × Int) ((Int))) :=
  (cond (decide (v4 < (a0.size : Int))) (grd (0 ≤ v4 ∧ v4 < (a0.size : Int)) (grd ((999979 : Int) ≠ 0) (some (.go ((Int.tmod (w64 ((w64 ((w64 ((41 : Int) * v3)) + (w64 (bAt a0 v4)))) + (1 : Int))) (999979 : Int)), (w64 (v4 + (1 : Int)))))))) ((some (.out v3))))
noncomputable def impl_checksum (a0 : ByteArray) : Option (Int) :=
  ((iter (fun s => impl_checksum_loop1 a0 s.1 s.2) ((7 : Int), (0 : Int))).bind (fun r5 => (some r5)))
def impl_checksum.res (_ : ByteArray) (y : Int) : AV := (.v (.int .i64 y))
def impl_checksum.out (_ : ByteArray) (_ : Int) : List (Option LB) := []
def impl_checksum.S (ar : List AV) (h : List (Option LB)) (r : AV) (h1 : List (Option LB)) : Prop := ∃ a0 y, impl_checksum a0 = some y ∧ leL ar [(.v (.string a0))] ∧ leH h [] ∧ r = impl_checksum.res a0 y ∧ h1 = impl_checksum.out a0 y
theorem impl_checksum.call {ar : List AV} {h : List (Option LB)} {a0 : ByteArray} {y : Int} (H : impl_checksum a0 = some y) (h0 : leLk ar [(.v (.string a0))] (leHk h [])) : impl_checksum.S ar h (impl_checksum.res a0 y) (impl_checksum.out a0 y) := ⟨a0, y, H, (args_ok h0).1, (args_ok h0).2, rfl, rfl⟩
set_option maxHeartbeats 100000000 in
set_option maxRecDepth 100000 in
theorem impl_checksum.spec (a0 : ByteArray) (y : Int) (H : impl_checksum a0 = some y) : Spec Tryd.prog 174 [(.v (.string a0))] [] (impl_checksum.res a0 y) (impl_checksum.out a0 y) := by
  refine spec_intro (G17_ok.at tok []) (ct := []) Tryd.func174 rfl (by kernel_rfl) (by kernel_rfl) rfl ?_
  repeat' first
    | ((with_reducible refine eqg ?_); exact rfl)
    | ((with_reducible refine KOb.mk ?_); kernel_rfl)
    | ((with_reducible intro h); (repeat (first | replace H := grd_k H | replace H := out_step H (by assumption))); first | replace H := cond_t h H | replace H := cond_f h H | exact absurd h (by decide) | skip)
    | ((with_reducible refine Ob.mk ?_); first | (with_reducible rfl) | (first | ((repeat (first | (with_reducible exact grd_p H) | (replace H := grd_k H) | (replace H := out_step H (by assumption)))); done) | rfl | ((repeat (first | exact grd_p H | replace H := grd_k H | replace H := out_step H (by assumption))); done) | ((repeat (first | exact grd_p H | (have hp := grd_p H; exact hp) | replace H := grd_k H | replace H := out_step H (by assumption) | (replace H := bind_some H; obtain ⟨_, _, H⟩ := H))); done) | (repeat (first | exact grd_p H | replace H := grd_k H | replace H := out_step H (by assumption)))))
    | (with_reducible exact True.intro)
    | ((conv => whnf); first
        | (with_reducible refine And.intro ?_ ?_)
        | (with_reducible exact True.intro)
        | ((with_reducible refine Ob.mk ?_); first | (with_reducible rfl) | (first | ((repeat (first | (with_reducible exact grd_p H) | (replace H := grd_k H) | (replace H := out_step H (by assumption)))); done) | rfl | ((repeat (first | exact grd_p H | replace H := grd_k H | replace H := out_step H (by assumption))); done) | ((repeat (first | exact grd_p H | (have hp := grd_p H; exact hp) | replace H := grd_k H | replace H := out_step H (by assumption) | (replace H := bind_some H; obtain ⟨_, _, H⟩ := H))); done) | (repeat (first | exact grd_p H | replace H := grd_k H | replace H := out_step H (by assumption)))))
        | ((repeat (first | replace H := grd_k H | replace H := out_step H (by assumption))); refine loop_iter (G17_ok.at tok []) (ct := []) (F := (fun s1 : Int × Int => ⟨sl [(0, (.v (.string a0))), (3, (.v (.int .i64 s1.1))), (6, (.v (.int .i64 (a0.size : Int)))), (7, (.v (.int .i64 s1.2)))], []⟩)) (step := (fun s : Int × Int => impl_checksum_loop1 _ s.1 s.2)) _ H (by kernel_rfl) (sub_auto ?_) ?_; rotate_left; (intro s1 r v hr H); rotate_right)
        | ((repeat (first | replace H := grd_k H | replace H := out_step H (by assumption))); refine again_step H (by assumption) (sub_auto ?_))
        | ((with_reducible refine fin_mk ?_); (repeat (first | replace H := grd_k H | replace H := out_step H (by assumption))); have H := Option.some.inj H; subst H))
    | constructor
def G18 : Env := G17.add 174 [] impl_checksum.S
theorem G18_ok : EnvOk Tryd.prog G18 := G17_ok.add ent_174 fun ar h r h1 ⟨a0, y, hy, e1, e2, e3, e4⟩ => by
  subst e3 e4; exact (impl_checksum.spec a0 y hy).le e1 e2
attribute [local irreducible] impl_checksum

end Go.Proofs.YtppiaacfnoifkaaDoor
