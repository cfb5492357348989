/-
  Contracts, printed by a program.
-/
import Derived.Test.YtaajchikfgbecaaGreatDoorC847
namespace Go.Proofs.YtaajchikfgbecaaGreatDoor
open Go.RowKit
attribute [local irreducible] Ob loopwp Sub Spec Fin Again CallW CutC KOb iter joinx outm

attribute [local irreducible] laws_rBig spec_l1Cur_next spec_l1Cur_pick spec_l1Cur_among spec_l1Cur_one spec_l1Cur_weather spec_DrawIsWeather spec_DrawWeatherText impl_within impl_IsWeather strconv_Itoa impl_distance impl_tenths impl_weatherText impl_WeatherText spec_l1In spec_l17Minute spec_l17Wind spec_l17Way spec_l17One spec_l1Num spec_l1Num_f spec_l17Tenths spec_l17Tenths_f spec_l17Text spec_WeatherText strings_Split strings_Cut internal_stringslite_HasPrefix internal_stringslite_TrimPrefix strings_TrimPrefix strings_Replace strings_TrimLeft impl_ParseInt strings_HasPrefix impl_readTenths internal_stringslite_HasSuffix internal_stringslite_TrimSuffix strings_TrimSuffix impl_ParseWeather spec_l1Cur_spoilt spec_DrawParseWeather spec_l1Split spec_l17Digits spec_ParseWeather spec_DrawSideWind impl_SideWind spec_l1Most spec_l1Least spec_SideWind spec_l1Cur_records

noncomputable def spec_l1Cur_minute17 (a0 : l1Cur) : Option (Int × l1Cur) :=
  ((spec_l1Cur_pick (a0.1, a0.2.1, a0.2.2.1, ()) (24 : Int)).bind fun y1 => (grd ((11 : Int) ≠ 0) (grd (0 ≤ (0 : Int) ∧ (0 : Int) ≤ (w64 ((7 : Int) + (w64 (Int.tdiv y1.1 (11 : Int))))) ∧ (w64 ((7 : Int) + (w64 (Int.tdiv y1.1 (11 : Int))))) ≤ ([(0 : Int), (5 : Int), (100 : Int), (110 : Int), (125 : Int), (9915 : Int), (9999 : Int), ((-1) : Int), (10000 : Int)].length : Int)) ((spec_l1Cur_among (y1.2.1, y1.2.2.1, y1.2.2.2.1, ()) (([(0 : Int), (5 : Int), (100 : Int), (110 : Int), (125 : Int), (9915 : Int), (9999 : Int), ((-1) : Int), (10000 : Int)].drop ((0 : Int).toNat)).take (((w64 ((7 : Int) + (w64 (Int.tdiv y1.1 (11 : Int))))) - (0 : Int)).toNat))).bind fun y2 => (some (y2.1, (y2.2.1, y2.2.2.1, y2.2.2.2.1, ())))))))
def spec_l1Cur_minute17.res (_ : l1Cur) (y : Int × l1Cur) : AV := (.v (.int .i64 y.1))
def spec_l1Cur_minute17.out (_ : l1Cur) (y : Int × l1Cur) : List (Option LB) := [some (.box 54 [(.tree (.int .u8) y.2.1), (.v (.int .i64 y.2.2.1)), (.v (.int .u64 y.2.2.2.1))])]
def spec_l1Cur_minute17.S (ar : List AV) (h : List (Option LB)) (r : AV) (h1 : List (Option LB)) : Prop := ∃ a0 y, spec_l1Cur_minute17 a0 = some y ∧ leL ar [(.loc 0 0 0)] ∧ leH h [some (.box 54 [(.tree (.int .u8) a0.1), (.v (.int .i64 a0.2.1)), (.v (.int .u64 a0.2.2.1))])] ∧ r = spec_l1Cur_minute17.res a0 y ∧ h1 = spec_l1Cur_minute17.out a0 y
theorem spec_l1Cur_minute17.call {ar : List AV} {h : List (Option LB)} {a0 : l1Cur} {y : Int × l1Cur} (H : spec_l1Cur_minute17 a0 = some y) (h0 : leLk ar [(.loc 0 0 0)] (leHk h [some (.box 54 [(.tree (.int .u8) a0.1), (.v (.int .i64 a0.2.1)), (.v (.int .u64 a0.2.2.1))])])) : spec_l1Cur_minute17.S ar h (spec_l1Cur_minute17.res a0 y) (spec_l1Cur_minute17.out a0 y) := ⟨a0, y, H, (args_ok h0).1, (args_ok h0).2, rfl, rfl⟩
set_option maxHeartbeats 100000000 in
set_option maxRecDepth 100000 in
theorem spec_l1Cur_minute17.spec (a0 : l1Cur) (y : Int × l1Cur) (H : spec_l1Cur_minute17 a0 = some y) : Spec Tryz.prog 42 [(.loc 0 0 0)] [some (.box 54 [(.tree (.int .u8) a0.1), (.v (.int .i64 a0.2.1)), (.v (.int .u64 a0.2.2.1))])] (spec_l1Cur_minute17.res a0 y) (spec_l1Cur_minute17.out a0 y) := by
  refine spec_intro (G49_ok.at tok []) (ct := []) Tryz.func42 rfl (by kernel_rfl) (by kernel_rfl) rfl ?_
  repeat' first
    | ((with_reducible refine eqg ?_); exact rfl)
    | ((with_reducible refine KOb.mk ?_); kernel_rfl)
    | ((with_reducible intro h); (repeat (first | replace H := grd_k H | replace H := out_step H (by assumption))); first | replace H := cond_t h H | replace H := cond_f h H | exact absurd h (by decide) | skip)
    | ((with_reducible refine Ob.mk ?_); first | (with_reducible rfl) | (first | ((repeat (first | (with_reducible exact grd_p H) | (replace H := grd_k H) | (replace H := out_step H (by assumption)))); done) | rfl | ((repeat (first | exact grd_p H | replace H := grd_k H | replace H := out_step H (by assumption))); done) | ((repeat (first | exact grd_p H | (have hp := grd_p H; exact hp) | replace H := grd_k H | replace H := out_step H (by assumption) | (replace H := bind_some H; obtain ⟨_, _, H⟩ := H))); done) | (repeat (first | exact grd_p H | replace H := grd_k H | replace H := out_step H (by assumption)))))
    | (with_reducible exact True.intro)
    | ((conv => whnf); first
        | (with_reducible refine And.intro ?_ ?_)
        | (with_reducible exact True.intro)
        | ((with_reducible refine Ob.mk ?_); first | (with_reducible rfl) | (first | ((repeat (first | (with_reducible exact grd_p H) | (replace H := grd_k H) | (replace H := out_step H (by assumption)))); done) | rfl | ((repeat (first | exact grd_p H | replace H := grd_k H | replace H := out_step H (by assumption))); done) | ((repeat (first | exact grd_p H | (have hp := grd_p H; exact hp) | replace H := grd_k H | replace H := out_step H (by assumption) | (replace H := bind_some H; obtain ⟨_, _, H⟩ := H))); done) | (repeat (first | exact grd_p H | replace H := grd_k H | replace H := out_step H (by assumption)))))
        | ((with_reducible refine CallW.mk ?_); (repeat (first | replace H := grd_k H | replace H := out_step H (by assumption))); replace H := bind_some H; obtain ⟨y, hy, H⟩ := H; first | ((with_reducible have hz : spec_l1Cur_pick _ _ = some y := hy); clear hz; refine Exists.intro _ (Exists.intro _ ⟨spec_l1Cur_pick.call hy ?_, rfl, rfl, ?_⟩)) | ((with_reducible have hz : spec_l1Cur_among _ _ = some y := hy); clear hz; refine Exists.intro _ (Exists.intro _ ⟨spec_l1Cur_among.call hy ?_, rfl, rfl, ?_⟩)))
        | ((with_reducible refine fin_mk ?_); (repeat (first | replace H := grd_k H | replace H := out_step H (by assumption))); have H := Option.some.inj H; subst H))
    | constructor
def G50 : Env := G49.add 42 [true] spec_l1Cur_minute17.S
theorem G50_ok : EnvOk Tryz.prog G50 := G49_ok.add ent_42 fun ar h r h1 ⟨a0, y, hy, e1, e2, e3, e4⟩ => by
  subst e3 e4; exact (spec_l1Cur_minute17.spec a0 y hy).le e1 e2
attribute [local irreducible] spec_l1Cur_minute17

noncomputable def spec_DrawStrongestWind (a0 : (List Int)) : Option ((List Weather) × Int × Int) :=
  ((spec_l1Cur_records (a0, (0 : Int), (0 : Int), ())).bind fun y1 => ((spec_l1Cur_minute17 (y1.2.1, y1.2.2.1, y1.2.2.2.1, ())).bind fun y2 => ((spec_l1Cur_pick (y2.2.1, y2.2.2.1, y2.2.2.2.1, ()) (24 : Int)).bind fun y3 => (grd ((11 : Int) ≠ 0) (grd (0 ≤ (0 : Int) ∧ (0 : Int) ≤ (w64 ((4 : Int) + (w64 (Int.tdiv y3.1 (11 : Int))))) ∧ (w64 ((4 : Int) + (w64 (Int.tdiv y3.1 (11 : Int))))) ≤ ([(0 : Int), (5 : Int), (30 : Int), (84 : Int), ((-1) : Int), (10000 : Int)].length : Int)) ((spec_l1Cur_among (y3.2.1, y3.2.2.1, y3.2.2.2.1, ()) (([(0 : Int), (5 : Int), (30 : Int), (84 : Int), ((-1) : Int), (10000 : Int)].drop ((0 : Int).toNat)).take (((w64 ((4 : Int) + (w64 (Int.tdiv y3.1 (11 : Int))))) - (0 : Int)).toNat))).bind fun y4 => (some (y1.1, y2.1, (w64 (y2.1 + y4.1))))))))))
def spec_DrawStrongestWind.res (_ : (List Int)) (y : (List Weather) × Int × Int) : AV := (.tup [(.own 0), (.v (.int .i64 y.2.1)), (.v (.int .i64 y.2.2))])
def spec_DrawStrongestWind.out (_ : (List Int)) (y : (List Weather) × Int × Int) : List (Option LB) := [some (.arr 25 ty_Weather y.1)]
def spec_DrawStrongestWind.S (ar : List AV) (h : List (Option LB)) (r : AV) (h1 : List (Option LB)) : Prop := ∃ a0 y, spec_DrawStrongestWind a0 = some y ∧ leL ar [(.tree (.int .u8) a0)] ∧ leH h [] ∧ r = spec_DrawStrongestWind.res a0 y ∧ h1 = spec_DrawStrongestWind.out a0 y
theorem spec_DrawStrongestWind.call {ar : List AV} {h : List (Option LB)} {a0 : (List Int)} {y : (List Weather) × Int × Int} (H : spec_DrawStrongestWind a0 = some y) (h0 : leLk ar [(.tree (.int .u8) a0)] (leHk h [])) : spec_DrawStrongestWind.S ar h (spec_DrawStrongestWind.res a0 y) (spec_DrawStrongestWind.out a0 y) := ⟨a0, y, H, (args_ok h0).1, (args_ok h0).2, rfl, rfl⟩
set_option maxHeartbeats 100000000 in
set_option maxRecDepth 100000 in
theorem spec_DrawStrongestWind.spec (a0 : (List Int)) (y : (List Weather) × Int × Int) (H : spec_DrawStrongestWind a0 = some y) : Spec Tryz.prog 15 [(.tree (.int .u8) a0)] [] (spec_DrawStrongestWind.res a0 y) (spec_DrawStrongestWind.out a0 y) := by
  refine spec_intro (G50_ok.at tok []) (ct := []) Tryz.func15 rfl (by kernel_rfl) (by kernel_rfl) rfl ?_
  repeat' first
    | ((with_reducible refine eqg ?_); exact rfl)
    | ((with_reducible refine KOb.mk ?_); kernel_rfl)
    | ((with_reducible intro h); (repeat (first | replace H := grd_k H | replace H := out_step H (by assumption))); first | replace H := cond_t h H | replace H := cond_f h H | exact absurd h (by decide) | skip)
    | ((with_reducible refine Ob.mk ?_); first | (with_reducible rfl) | (first | ((repeat (first | (with_reducible exact grd_p H) | (replace H := grd_k H) | (replace H := out_step H (by assumption)))); done) | rfl | ((repeat (first | exact grd_p H | replace H := grd_k H | replace H := out_step H (by assumption))); done) | ((repeat (first | exact grd_p H | (have hp := grd_p H; exact hp) | replace H := grd_k H | replace H := out_step H (by assumption) | (replace H := bind_some H; obtain ⟨_, _, H⟩ := H))); done) | (repeat (first | exact grd_p H | replace H := grd_k H | replace H := out_step H (by assumption)))))
    | (with_reducible exact True.intro)
    | ((conv => whnf); first
        | (with_reducible refine And.intro ?_ ?_)
        | (with_reducible exact True.intro)
        | ((with_reducible refine Ob.mk ?_); first | (with_reducible rfl) | (first | ((repeat (first | (with_reducible exact grd_p H) | (replace H := grd_k H) | (replace H := out_step H (by assumption)))); done) | rfl | ((repeat (first | exact grd_p H | replace H := grd_k H | replace H := out_step H (by assumption))); done) | ((repeat (first | exact grd_p H | (have hp := grd_p H; exact hp) | replace H := grd_k H | replace H := out_step H (by assumption) | (replace H := bind_some H; obtain ⟨_, _, H⟩ := H))); done) | (repeat (first | exact grd_p H | replace H := grd_k H | replace H := out_step H (by assumption)))))
        | ((with_reducible refine CallW.mk ?_); (repeat (first | replace H := grd_k H | replace H := out_step H (by assumption))); replace H := bind_some H; obtain ⟨y, hy, H⟩ := H; first | ((with_reducible have hz : spec_l1Cur_records _ = some y := hy); clear hz; refine Exists.intro _ (Exists.intro _ ⟨spec_l1Cur_records.call hy ?_, rfl, rfl, ?_⟩)) | ((with_reducible have hz : spec_l1Cur_minute17 _ = some y := hy); clear hz; refine Exists.intro _ (Exists.intro _ ⟨spec_l1Cur_minute17.call hy ?_, rfl, rfl, ?_⟩)) | ((with_reducible have hz : spec_l1Cur_pick _ _ = some y := hy); clear hz; refine Exists.intro _ (Exists.intro _ ⟨spec_l1Cur_pick.call hy ?_, rfl, rfl, ?_⟩)) | ((with_reducible have hz : spec_l1Cur_among _ _ = some y := hy); clear hz; refine Exists.intro _ (Exists.intro _ ⟨spec_l1Cur_among.call hy ?_, rfl, rfl, ?_⟩)))
        | ((with_reducible refine fin_mk ?_); (repeat (first | replace H := grd_k H | replace H := out_step H (by assumption))); have H := Option.some.inj H; subst H))
    | constructor
def G51 : Env := G50.add 15 [] spec_DrawStrongestWind.S
theorem G51_ok : EnvOk Tryz.prog G51 := G50_ok.add ent_15 fun ar h r h1 ⟨a0, y, hy, e1, e2, e3, e4⟩ => by
  subst e3 e4; exact (spec_DrawStrongestWind.spec a0 y hy).le e1 e2
attribute [local irreducible] spec_DrawStrongestWind

noncomputable def impl_AreRecords_loop1 (a0 : (List Weather)) (v5 : Int) : Option (Lp (Int) ((Unit) ⊕ (Unit))) :=
  (cond (decide (v5 < (a0.length : Int))) (grd (0 ≤ v5 ∧ v5 < (a0.length : Int)) ((impl_IsWeather ((a0.getD v5.toNat d_Weather).1, (a0.getD v5.toNat d_Weather).2.1, (a0.getD v5.toNat d_Weather).2.2.1, (a0.getD v5.toNat d_Weather).2.2.2.1, (a0.getD v5.toNat d_Weather).2.2.2.2.1, ())).bind fun y6 => (cond (!y6) ((some (.out (Sum.inl ())))) (cond (decide ((0 : Int) < v5)) (grd (0 ≤ (w64 (v5 - (1 : Int))) ∧ (w64 (v5 - (1 : Int))) < (a0.length : Int)) (cond (decide (((a0.getD v5.toNat d_Weather).1) ≤ ((a0.getD ((w64 (v5 - (1 : Int))).toNat) d_Weather).1))) ((some (.out (Sum.inl ())))) (some (.go (w64 (v5 + (1 : Int))))))) (some (.go (w64 (v5 + (1 : Int))))))))) ((some (.out (Sum.inr ())))))
noncomputable def impl_AreRecords (a0 : (List Weather)) : Option (Bool) :=
  ((iter (fun s => impl_AreRecords_loop1 a0 s) (0 : Int)).bind (Sum.elim (fun _ => (some false)) (fun _ => (some (decide ((a0.length : Int) ≤ (20 : Int)))))))
def impl_AreRecords.res (_ : (List Weather)) (y : Bool) : AV := (.bl y)
def impl_AreRecords.out (_ : (List Weather)) (_ : Bool) : List (Option LB) := []
def impl_AreRecords.S (ar : List AV) (h : List (Option LB)) (r : AV) (h1 : List (Option LB)) : Prop := ∃ a0 y, impl_AreRecords a0 = some y ∧ leL ar [(.tree ty_Weather a0)] ∧ leH h [] ∧ r = impl_AreRecords.res a0 y ∧ h1 = impl_AreRecords.out a0 y
theorem impl_AreRecords.call {ar : List AV} {h : List (Option LB)} {a0 : (List Weather)} {y : Bool} (H : impl_AreRecords a0 = some y) (h0 : leLk ar [(.tree ty_Weather a0)] (leHk h [])) : impl_AreRecords.S ar h (impl_AreRecords.res a0 y) (impl_AreRecords.out a0 y) := ⟨a0, y, H, (args_ok h0).1, (args_ok h0).2, rfl, rfl⟩
set_option maxHeartbeats 100000000 in
set_option maxRecDepth 100000 in
theorem impl_AreRecords.spec (a0 : (List Weather)) (y : Bool) (H : impl_AreRecords a0 = some y) : Spec Tryz.prog 18 [(.tree ty_Weather a0)] [] (impl_AreRecords.res a0 y) (impl_AreRecords.out a0 y) := by
  refine spec_intro (G51_ok.at tok []) (ct := [(5, some [0, 5, 6, 7, 16, 17, 18, 19, 20, 21, 22, 23, 24, 25, 26, 27, 28, 29])]) Tryz.func18 rfl (by kernel_rfl) (by kernel_rfl) rfl ?_
  repeat' first
    | ((with_reducible refine eqg ?_); exact rfl)
    | ((with_reducible refine KOb.mk ?_); kernel_rfl)
    | ((with_reducible intro h); (repeat (first | replace H := grd_k H | replace H := out_step H (by assumption))); first | replace H := cond_t h H | replace H := cond_f h H | exact absurd h (by decide) | skip)
    | ((with_reducible refine Ob.mk ?_); first | (with_reducible rfl) | (first | ((repeat (first | (with_reducible exact grd_p H) | (replace H := grd_k H) | (replace H := out_step H (by assumption)))); done) | rfl | ((repeat (first | exact grd_p H | replace H := grd_k H | replace H := out_step H (by assumption))); done) | ((repeat (first | exact grd_p H | (have hp := grd_p H; exact hp) | replace H := grd_k H | replace H := out_step H (by assumption) | (replace H := bind_some H; obtain ⟨_, _, H⟩ := H))); done) | (repeat (first | exact grd_p H | replace H := grd_k H | replace H := out_step H (by assumption)))))
    | (with_reducible exact True.intro)
    | ((conv => whnf); first
        | (with_reducible refine And.intro ?_ ?_)
        | (with_reducible exact True.intro)
        | ((with_reducible refine Ob.mk ?_); first | (with_reducible rfl) | (first | ((repeat (first | (with_reducible exact grd_p H) | (replace H := grd_k H) | (replace H := out_step H (by assumption)))); done) | rfl | ((repeat (first | exact grd_p H | replace H := grd_k H | replace H := out_step H (by assumption))); done) | ((repeat (first | exact grd_p H | (have hp := grd_p H; exact hp) | replace H := grd_k H | replace H := out_step H (by assumption) | (replace H := bind_some H; obtain ⟨_, _, H⟩ := H))); done) | (repeat (first | exact grd_p H | replace H := grd_k H | replace H := out_step H (by assumption)))))
        | ((with_reducible refine CallW.mk ?_); (repeat (first | replace H := grd_k H | replace H := out_step H (by assumption))); replace H := bind_some H; obtain ⟨y, hy, H⟩ := H; first | ((with_reducible have hz : impl_IsWeather _ = some y := hy); clear hz; refine Exists.intro _ (Exists.intro _ ⟨impl_IsWeather.call hy ?_, rfl, rfl, ?_⟩)))
        | ((repeat (first | replace H := grd_k H | replace H := out_step H (by assumption))); refine loop_iter (G51_ok.at tok []) (ct := [(5, some [0, 5, 6, 7, 16, 17, 18, 19, 20, 21, 22, 23, 24, 25, 26, 27, 28, 29])]) (F := (fun s1 : Int => ⟨sl [(0, (.tree ty_Weather a0)), (5, (.tree ty_Weather a0)), (6, (.v (.int .i64 (a0.length : Int)))), (7, (.v (.int .i64 s1)))], []⟩)) (step := (fun s : Int => impl_AreRecords_loop1 _ s)) _ H (by kernel_rfl) (sub_auto ?_) ?_; rotate_left; (intro s1 r v hr H); rotate_right)
        | ((repeat (first | replace H := grd_k H | replace H := out_step H (by assumption))); refine again_step H (by assumption) (sub_auto ?_))
        | ((with_reducible refine fin_mk ?_); (repeat (first | replace H := grd_k H | replace H := out_step H (by assumption))); have H := Option.some.inj H; subst H))
    | constructor
def G52 : Env := G51.add 18 [] impl_AreRecords.S
theorem G52_ok : EnvOk Tryz.prog G52 := G51_ok.add ent_18 fun ar h r h1 ⟨a0, y, hy, e1, e2, e3, e4⟩ => by
  subst e3 e4; exact (impl_AreRecords.spec a0 y hy).le e1 e2
attribute [local irreducible] impl_AreRecords

noncomputable def impl_StrongestWind_loop1 (a0 : (List Weather)) (a1 : Int) (a2 : Int) (v7 : Int) (v8 : Int) : Option (Lp (Int × Int) ((Int))) :=
  (cond (decide (v8 < (a0.length : Int))) (grd (0 ≤ v8 ∧ v8 < (a0.length : Int)) ((impl_within ((a0.getD v8.toNat d_Weather).1) a1 a2).bind fun y9 => (cond y9 (some (.go ((if false = true then (if ((a0.getD v8.toNat d_Weather).2.1) < v7 then ((a0.getD v8.toNat d_Weather).2.1) else v7) else (if ((a0.getD v8.toNat d_Weather).2.1) > v7 then ((a0.getD v8.toNat d_Weather).2.1) else v7)), (w64 (v8 + (1 : Int)))))) (some (.go (v7, (w64 (v8 + (1 : Int))))))))) ((some (.out v7))))
noncomputable def impl_StrongestWind (a0 : (List Weather)) (a1 : Int) (a2 : Int) : Option (Int × Bool) :=
  ((impl_AreRecords a0).bind fun y1 => (cond (!y1) ((some ((0 : Int), false))) ((impl_within a1 (0 : Int) a2).bind fun y2 => (cond (!y2) ((some ((0 : Int), false))) (cond (decide ((9999 : Int) < a2)) ((some ((0 : Int), false))) ((iter (fun s => impl_StrongestWind_loop1 a0 a1 a2 s.1 s.2) (((-1) : Int), (0 : Int))).bind (fun r10 => (some ((if false = true then (if (0 : Int) < r10 then (0 : Int) else r10) else (if (0 : Int) > r10 then (0 : Int) else r10)), (decide ((0 : Int) ≤ r10)))))))))))
def impl_StrongestWind.res (_ : (List Weather)) (_ : Int) (_ : Int) (y : Int × Bool) : AV := (.tup [(.v (.int .i64 y.1)), (.bl y.2)])
def impl_StrongestWind.out (_ : (List Weather)) (_ : Int) (_ : Int) (_ : Int × Bool) : List (Option LB) := []
def impl_StrongestWind.S (ar : List AV) (h : List (Option LB)) (r : AV) (h1 : List (Option LB)) : Prop := ∃ a0 a1 a2 y, impl_StrongestWind a0 a1 a2 = some y ∧ leL ar [(.tree ty_Weather a0), (.v (.int .i64 a1)), (.v (.int .i64 a2))] ∧ leH h [] ∧ r = impl_StrongestWind.res a0 a1 a2 y ∧ h1 = impl_StrongestWind.out a0 a1 a2 y
theorem impl_StrongestWind.call {ar : List AV} {h : List (Option LB)} {a0 : (List Weather)} {a1 : Int} {a2 : Int} {y : Int × Bool} (H : impl_StrongestWind a0 a1 a2 = some y) (h0 : leLk ar [(.tree ty_Weather a0), (.v (.int .i64 a1)), (.v (.int .i64 a2))] (leHk h [])) : impl_StrongestWind.S ar h (impl_StrongestWind.res a0 a1 a2 y) (impl_StrongestWind.out a0 a1 a2 y) := ⟨a0, a1, a2, y, H, (args_ok h0).1, (args_ok h0).2, rfl, rfl⟩
set_option maxHeartbeats 100000000 in
set_option maxRecDepth 100000 in
theorem impl_StrongestWind.spec (a0 : (List Weather)) (a1 : Int) (a2 : Int) (y : Int × Bool) (H : impl_StrongestWind a0 a1 a2 = some y) : Spec Tryz.prog 16 [(.tree ty_Weather a0), (.v (.int .i64 a1)), (.v (.int .i64 a2))] [] (impl_StrongestWind.res a0 a1 a2 y) (impl_StrongestWind.out a0 a1 a2 y) := by
  refine spec_intro (G52_ok.at tok []) (ct := [(2, some [0, 1, 2, 23]), (9, some [1, 2, 8, 24, 25, 26])]) Tryz.func16 rfl (by kernel_rfl) (by kernel_rfl) rfl ?_
  repeat' first
    | ((with_reducible refine eqg ?_); exact rfl)
    | ((with_reducible refine KOb.mk ?_); kernel_rfl)
    | ((with_reducible intro h); (repeat (first | replace H := grd_k H | replace H := out_step H (by assumption))); first | replace H := cond_t h H | replace H := cond_f h H | exact absurd h (by decide) | skip)
    | ((with_reducible refine Ob.mk ?_); first | (with_reducible rfl) | (first | ((repeat (first | (with_reducible exact grd_p H) | (replace H := grd_k H) | (replace H := out_step H (by assumption)))); done) | rfl | ((repeat (first | exact grd_p H | replace H := grd_k H | replace H := out_step H (by assumption))); done) | ((repeat (first | exact grd_p H | (have hp := grd_p H; exact hp) | replace H := grd_k H | replace H := out_step H (by assumption) | (replace H := bind_some H; obtain ⟨_, _, H⟩ := H))); done) | (repeat (first | exact grd_p H | replace H := grd_k H | replace H := out_step H (by assumption)))))
    | (with_reducible exact True.intro)
    | ((conv => whnf); first
        | (with_reducible refine And.intro ?_ ?_)
        | (with_reducible exact True.intro)
        | ((with_reducible refine Ob.mk ?_); first | (with_reducible rfl) | (first | ((repeat (first | (with_reducible exact grd_p H) | (replace H := grd_k H) | (replace H := out_step H (by assumption)))); done) | rfl | ((repeat (first | exact grd_p H | replace H := grd_k H | replace H := out_step H (by assumption))); done) | ((repeat (first | exact grd_p H | (have hp := grd_p H; exact hp) | replace H := grd_k H | replace H := out_step H (by assumption) | (replace H := bind_some H; obtain ⟨_, _, H⟩ := H))); done) | (repeat (first | exact grd_p H | replace H := grd_k H | replace H := out_step H (by assumption)))))
        | ((with_reducible refine CallW.mk ?_); (repeat (first | replace H := grd_k H | replace H := out_step H (by assumption))); replace H := bind_some H; obtain ⟨y, hy, H⟩ := H; first | ((with_reducible have hz : impl_AreRecords _ = some y := hy); clear hz; refine Exists.intro _ (Exists.intro _ ⟨impl_AreRecords.call hy ?_, rfl, rfl, ?_⟩)) | ((with_reducible have hz : impl_within _ _ _ = some y := hy); clear hz; refine Exists.intro _ (Exists.intro _ ⟨impl_within.call hy ?_, rfl, rfl, ?_⟩)))
        | ((repeat (first | replace H := grd_k H | replace H := out_step H (by assumption))); refine loop_iter (G52_ok.at tok []) (ct := [(2, some [0, 1, 2, 23]), (9, some [1, 2, 8, 24, 25, 26])]) (F := (fun s1 : Int × Int => ⟨sl [(1, (.v (.int .i64 a1))), (2, (.v (.int .i64 a2))), (8, (.v (.int .i64 s1.1))), (24, (.tree ty_Weather a0)), (25, (.v (.int .i64 (a0.length : Int)))), (26, (.v (.int .i64 s1.2)))], []⟩)) (step := (fun s : Int × Int => impl_StrongestWind_loop1 _ _ _ s.1 s.2)) _ H (by kernel_rfl) (sub_auto ?_) ?_; rotate_left; (intro s1 r v hr H); rotate_right)
        | ((repeat (first | replace H := grd_k H | replace H := out_step H (by assumption))); refine again_step H (by assumption) (sub_auto ?_))
        | ((with_reducible refine fin_mk ?_); (repeat (first | replace H := grd_k H | replace H := out_step H (by assumption))); have H := Option.some.inj H; subst H))
    | constructor
def G53 : Env := G52.add 16 [] impl_StrongestWind.S
theorem G53_ok : EnvOk Tryz.prog G53 := G52_ok.add ent_16 fun ar h r h1 ⟨a0, a1, a2, y, hy, e1, e2, e3, e4⟩ => by
  subst e3 e4; exact (impl_StrongestWind.spec a0 a1 a2 y hy).le e1 e2
attribute [local irreducible] impl_StrongestWind

noncomputable def spec_l17Good_loop1 (a0 : (List Weather)) (v5 : Int) : Option (Lp (Int) ((Unit) ⊕ (Unit))) :=
  (cond (decide (v5 < (a0.length : Int))) (grd (0 ≤ v5 ∧ v5 < (a0.length : Int)) ((spec_l17One ((a0.getD v5.toNat d_Weather).1, (a0.getD v5.toNat d_Weather).2.1, (a0.getD v5.toNat d_Weather).2.2.1, (a0.getD v5.toNat d_Weather).2.2.2.1, (a0.getD v5.toNat d_Weather).2.2.2.2.1, ())).bind fun y6 => (cond (!y6) ((some (.out (Sum.inl ())))) (cond (decide ((0 : Int) < v5)) (grd (0 ≤ (w64 (v5 - (1 : Int))) ∧ (w64 (v5 - (1 : Int))) < (a0.length : Int)) (grd (0 ≤ v5 ∧ v5 < (a0.length : Int)) (cond (decide (((a0.getD v5.toNat d_Weather).1) ≤ ((a0.getD ((w64 (v5 - (1 : Int))).toNat) d_Weather).1))) ((some (.out (Sum.inl ())))) (some (.go (w64 (v5 + (1 : Int)))))))) (some (.go (w64 (v5 + (1 : Int))))))))) ((some (.out (Sum.inr ())))))
noncomputable def spec_l17Good (a0 : (List Weather)) : Option (Bool) :=
  ((iter (fun s => spec_l17Good_loop1 a0 s) (0 : Int)).bind (Sum.elim (fun _ => (some false)) (fun _ => (some (decide ((a0.length : Int) ≤ (20 : Int)))))))
def spec_l17Good.res (_ : (List Weather)) (y : Bool) : AV := (.bl y)
def spec_l17Good.out (_ : (List Weather)) (_ : Bool) : List (Option LB) := []
def spec_l17Good.S (ar : List AV) (h : List (Option LB)) (r : AV) (h1 : List (Option LB)) : Prop := ∃ a0 y, spec_l17Good a0 = some y ∧ leL ar [(.tree ty_Weather a0)] ∧ leH h [] ∧ r = spec_l17Good.res a0 y ∧ h1 = spec_l17Good.out a0 y
theorem spec_l17Good.call {ar : List AV} {h : List (Option LB)} {a0 : (List Weather)} {y : Bool} (H : spec_l17Good a0 = some y) (h0 : leLk ar [(.tree ty_Weather a0)] (leHk h [])) : spec_l17Good.S ar h (spec_l17Good.res a0 y) (spec_l17Good.out a0 y) := ⟨a0, y, H, (args_ok h0).1, (args_ok h0).2, rfl, rfl⟩
set_option maxHeartbeats 100000000 in
set_option maxRecDepth 100000 in
theorem spec_l17Good.spec (a0 : (List Weather)) (y : Bool) (H : spec_l17Good a0 = some y) : Spec Tryz.prog 43 [(.tree ty_Weather a0)] [] (spec_l17Good.res a0 y) (spec_l17Good.out a0 y) := by
  refine spec_intro (G53_ok.at tok []) (ct := [(5, some [0, 3, 17, 18, 19, 20, 21, 22, 23, 24, 25, 26, 27, 28, 29, 30, 31, 32, 33])]) Tryz.func43 rfl (by kernel_rfl) (by kernel_rfl) rfl ?_
  repeat' first
    | ((with_reducible refine eqg ?_); exact rfl)
    | ((with_reducible refine KOb.mk ?_); kernel_rfl)
    | ((with_reducible intro h); (repeat (first | replace H := grd_k H | replace H := out_step H (by assumption))); first | replace H := cond_t h H | replace H := cond_f h H | exact absurd h (by decide) | skip)
    | ((with_reducible refine Ob.mk ?_); first | (with_reducible rfl) | (first | ((repeat (first | (with_reducible exact grd_p H) | (replace H := grd_k H) | (replace H := out_step H (by assumption)))); done) | rfl | ((repeat (first | exact grd_p H | replace H := grd_k H | replace H := out_step H (by assumption))); done) | ((repeat (first | exact grd_p H | (have hp := grd_p H; exact hp) | replace H := grd_k H | replace H := out_step H (by assumption) | (replace H := bind_some H; obtain ⟨_, _, H⟩ := H))); done) | (repeat (first | exact grd_p H | replace H := grd_k H | replace H := out_step H (by assumption)))))
    | (with_reducible exact True.intro)
    | ((conv => whnf); first
        | (with_reducible refine And.intro ?_ ?_)
        | (with_reducible exact True.intro)
        | ((with_reducible refine Ob.mk ?_); first | (with_reducible rfl) | (first | ((repeat (first | (with_reducible exact grd_p H) | (replace H := grd_k H) | (replace H := out_step H (by assumption)))); done) | rfl | ((repeat (first | exact grd_p H | replace H := grd_k H | replace H := out_step H (by assumption))); done) | ((repeat (first | exact grd_p H | (have hp := grd_p H; exact hp) | replace H := grd_k H | replace H := out_step H (by assumption) | (replace H := bind_some H; obtain ⟨_, _, H⟩ := H))); done) | (repeat (first | exact grd_p H | replace H := grd_k H | replace H := out_step H (by assumption)))))
        | ((with_reducible refine CallW.mk ?_); (repeat (first | replace H := grd_k H | replace H := out_step H (by assumption))); replace H := bind_some H; obtain ⟨y, hy, H⟩ := H; first | ((with_reducible have hz : spec_l17One _ = some y := hy); clear hz; refine Exists.intro _ (Exists.intro _ ⟨spec_l17One.call hy ?_, rfl, rfl, ?_⟩)))
        | ((repeat (first | replace H := grd_k H | replace H := out_step H (by assumption))); refine loop_iter (G53_ok.at tok []) (ct := [(5, some [0, 3, 17, 18, 19, 20, 21, 22, 23, 24, 25, 26, 27, 28, 29, 30, 31, 32, 33])]) (F := (fun s1 : Int => ⟨sl [(0, (.tree ty_Weather a0)), (3, (.v (.int .i64 s1)))], []⟩)) (step := (fun s : Int => spec_l17Good_loop1 _ s)) _ H (by kernel_rfl) (sub_auto ?_) ?_; rotate_left; (intro s1 r v hr H); rotate_right)
        | ((repeat (first | replace H := grd_k H | replace H := out_step H (by assumption))); refine again_step H (by assumption) (sub_auto ?_))
        | ((with_reducible refine fin_mk ?_); (repeat (first | replace H := grd_k H | replace H := out_step H (by assumption))); have H := Option.some.inj H; subst H))
    | constructor
def G54 : Env := G53.add 43 [] spec_l17Good.S
theorem G54_ok : EnvOk Tryz.prog G54 := G53_ok.add ent_43 fun ar h r h1 ⟨a0, y, hy, e1, e2, e3, e4⟩ => by
  subst e3 e4; exact (spec_l17Good.spec a0 y hy).le e1 e2
attribute [local irreducible] spec_l17Good

noncomputable def spec_StrongestWind_loop1 (a0 : (List Weather)) (a1 : Int) (a2 : Int) (v10 : Int) (v11 : Int) : Option (Lp (Int × Int) ((Int))) :=
  (cond (decide (v11 < (a0.length : Int))) (grd (0 ≤ v11 ∧ v11 < (a0.length : Int)) ((spec_l1In ((a0.getD v11.toNat d_Weather).1) a1 a2).bind fun y12 => (cond y12 (grd (0 ≤ v11 ∧ v11 < (a0.length : Int)) ((spec_l1Most v10 ((a0.getD v11.toNat d_Weather).2.1)).bind fun y13 => (some (.go (y13, (w64 (v11 + (1 : Int)))))))) (some (.go (v10, (w64 (v11 + (1 : Int))))))))) ((some (.out v10))))
noncomputable def spec_StrongestWind (a0 : (List Weather)) (a1 : Int) (a2 : Int) : Option (Int × Bool) :=
  ((spec_l17Good a0).bind fun y1 => (cond (!y1) ((some ((0 : Int), false))) ((spec_l17Minute a2).bind fun y2 => (cond (!y2) ((some ((0 : Int), false))) ((spec_l1In a1 (0 : Int) a2).bind fun y3 => (cond (!y3) ((some ((0 : Int), false))) ((iter (fun s => spec_StrongestWind_loop1 a0 a1 a2 s.1 s.2) (((-1) : Int), (0 : Int))).bind (fun r14 => (cond (decide (r14 < (0 : Int))) ((some ((0 : Int), false))) ((some (r14, true))))))))))))
def spec_StrongestWind.res (_ : (List Weather)) (_ : Int) (_ : Int) (y : Int × Bool) : AV := (.tup [(.v (.int .i64 y.1)), (.bl y.2)])
def spec_StrongestWind.out (_ : (List Weather)) (_ : Int) (_ : Int) (_ : Int × Bool) : List (Option LB) := []
def spec_StrongestWind.S (ar : List AV) (h : List (Option LB)) (r : AV) (h1 : List (Option LB)) : Prop := ∃ a0 a1 a2 y, spec_StrongestWind a0 a1 a2 = some y ∧ leL ar [(.tree ty_Weather a0), (.v (.int .i64 a1)), (.v (.int .i64 a2))] ∧ leH h [] ∧ r = spec_StrongestWind.res a0 a1 a2 y ∧ h1 = spec_StrongestWind.out a0 a1 a2 y
theorem spec_StrongestWind.call {ar : List AV} {h : List (Option LB)} {a0 : (List Weather)} {a1 : Int} {a2 : Int} {y : Int × Bool} (H : spec_StrongestWind a0 a1 a2 = some y) (h0 : leLk ar [(.tree ty_Weather a0), (.v (.int .i64 a1)), (.v (.int .i64 a2))] (leHk h [])) : spec_StrongestWind.S ar h (spec_StrongestWind.res a0 a1 a2 y) (spec_StrongestWind.out a0 a1 a2 y) := ⟨a0, a1, a2, y, H, (args_ok h0).1, (args_ok h0).2, rfl, rfl⟩
set_option maxHeartbeats 100000000 in
set_option maxRecDepth 100000 in
theorem spec_StrongestWind.spec (a0 : (List Weather)) (a1 : Int) (a2 : Int) (y : Int × Bool) (H : spec_StrongestWind a0 a1 a2 = some y) : Spec Tryz.prog 17 [(.tree ty_Weather a0), (.v (.int .i64 a1)), (.v (.int .i64 a2))] [] (spec_StrongestWind.res a0 a1 a2 y) (spec_StrongestWind.out a0 a1 a2 y) := by
  refine spec_intro (G54_ok.at tok []) (ct := [(2, some [0, 1, 2, 23]), (6, some [0, 1, 2, 8, 9])]) Tryz.func17 rfl (by kernel_rfl) (by kernel_rfl) rfl ?_
  repeat' first
    | ((with_reducible refine eqg ?_); exact rfl)
    | ((with_reducible refine KOb.mk ?_); kernel_rfl)
    | ((with_reducible intro h); (repeat (first | replace H := grd_k H | replace H := out_step H (by assumption))); first | replace H := cond_t h H | replace H := cond_f h H | exact absurd h (by decide) | skip)
    | ((with_reducible refine Ob.mk ?_); first | (with_reducible rfl) | (first | ((repeat (first | (with_reducible exact grd_p H) | (replace H := grd_k H) | (replace H := out_step H (by assumption)))); done) | rfl | ((repeat (first | exact grd_p H | replace H := grd_k H | replace H := out_step H (by assumption))); done) | ((repeat (first | exact grd_p H | (have hp := grd_p H; exact hp) | replace H := grd_k H | replace H := out_step H (by assumption) | (replace H := bind_some H; obtain ⟨_, _, H⟩ := H))); done) | (repeat (first | exact grd_p H | replace H := grd_k H | replace H := out_step H (by assumption)))))
    | (with_reducible exact True.intro)
    | ((conv => whnf); first
        | (with_reducible refine And.intro ?_ ?_)
        | (with_reducible exact True.intro)
        | ((with_reducible refine Ob.mk ?_); first | (with_reducible rfl) | (first | ((repeat (first | (with_reducible exact grd_p H) | (replace H := grd_k H) | (replace H := out_step H (by assumption)))); done) | rfl | ((repeat (first | exact grd_p H | replace H := grd_k H | replace H := out_step H (by assumption))); done) | ((repeat (first | exact grd_p H | (have hp := grd_p H; exact hp) | replace H := grd_k H | replace H := out_step H (by assumption) | (replace H := bind_some H; obtain ⟨_, _, H⟩ := H))); done) | (repeat (first | exact grd_p H | replace H := grd_k H | replace H := out_step H (by assumption)))))
        | ((with_reducible refine CallW.mk ?_); (repeat (first | replace H := grd_k H | replace H := out_step H (by assumption))); replace H := bind_some H; obtain ⟨y, hy, H⟩ := H; first | ((with_reducible have hz : spec_l17Good _ = some y := hy); clear hz; refine Exists.intro _ (Exists.intro _ ⟨spec_l17Good.call hy ?_, rfl, rfl, ?_⟩)) | ((with_reducible have hz : spec_l17Minute _ = some y := hy); clear hz; refine Exists.intro _ (Exists.intro _ ⟨spec_l17Minute.call hy ?_, rfl, rfl, ?_⟩)) | ((with_reducible have hz : spec_l1In _ _ _ = some y := hy); clear hz; refine Exists.intro _ (Exists.intro _ ⟨spec_l1In.call hy ?_, rfl, rfl, ?_⟩)) | ((with_reducible have hz : spec_l1Most _ _ = some y := hy); clear hz; refine Exists.intro _ (Exists.intro _ ⟨spec_l1Most.call hy ?_, rfl, rfl, ?_⟩)))
        | ((repeat (first | replace H := grd_k H | replace H := out_step H (by assumption))); refine loop_iter (G54_ok.at tok []) (ct := [(2, some [0, 1, 2, 23]), (6, some [0, 1, 2, 8, 9])]) (F := (fun s1 : Int × Int => ⟨sl [(0, (.tree ty_Weather a0)), (1, (.v (.int .i64 a1))), (2, (.v (.int .i64 a2))), (8, (.v (.int .i64 s1.1))), (9, (.v (.int .i64 s1.2)))], []⟩)) (step := (fun s : Int × Int => spec_StrongestWind_loop1 _ _ _ s.1 s.2)) _ H (by kernel_rfl) (sub_auto ?_) ?_; rotate_left; (intro s1 r v hr H); rotate_right)
        | ((repeat (first | replace H := grd_k H | replace H := out_step H (by assumption))); refine again_step H (by assumption) (sub_auto ?_))
        | ((with_reducible refine fin_mk ?_); (repeat (first | replace H := grd_k H | replace H := out_step H (by assumption))); have H := Option.some.inj H; subst H))
    | constructor
def G55 : Env := G54.add 17 [] spec_StrongestWind.S
theorem G55_ok : EnvOk Tryz.prog G55 := G54_ok.add ent_17 fun ar h r h1 ⟨a0, a1, a2, y, hy, e1, e2, e3, e4⟩ => by
  subst e3 e4; exact (spec_StrongestWind.spec a0 a1 a2 y hy).le e1 e2
attribute [local irreducible] spec_StrongestWind

noncomputable def spec_AreRecords (a0 : (List Weather)) : Option (Bool) :=
  ((spec_l17Good a0).bind fun y1 => (some y1))
def spec_AreRecords.res (_ : (List Weather)) (y : Bool) : AV := (.bl y)
def spec_AreRecords.out (_ : (List Weather)) (_ : Bool) : List (Option LB) := []
def spec_AreRecords.S (ar : List AV) (h : List (Option LB)) (r : AV) (h1 : List (Option LB)) : Prop := ∃ a0 y, spec_AreRecords a0 = some y ∧ leL ar [(.tree ty_Weather a0)] ∧ leH h [] ∧ r = spec_AreRecords.res a0 y ∧ h1 = spec_AreRecords.out a0 y
theorem spec_AreRecords.call {ar : List AV} {h : List (Option LB)} {a0 : (List Weather)} {y : Bool} (H : spec_AreRecords a0 = some y) (h0 : leLk ar [(.tree ty_Weather a0)] (leHk h [])) : spec_AreRecords.S ar h (spec_AreRecords.res a0 y) (spec_AreRecords.out a0 y) := ⟨a0, y, H, (args_ok h0).1, (args_ok h0).2, rfl, rfl⟩
set_option maxHeartbeats 100000000 in
set_option maxRecDepth 100000 in
theorem spec_AreRecords.spec (a0 : (List Weather)) (y : Bool) (H : spec_AreRecords a0 = some y) : Spec Tryz.prog 19 [(.tree ty_Weather a0)] [] (spec_AreRecords.res a0 y) (spec_AreRecords.out a0 y) := by
  refine spec_intro (G55_ok.at tok []) (ct := []) Tryz.func19 rfl (by kernel_rfl) (by kernel_rfl) rfl ?_
  repeat' first
    | ((with_reducible refine eqg ?_); exact rfl)
    | ((with_reducible refine KOb.mk ?_); kernel_rfl)
    | ((with_reducible intro h); (repeat (first | replace H := grd_k H | replace H := out_step H (by assumption))); first | replace H := cond_t h H | replace H := cond_f h H | exact absurd h (by decide) | skip)
    | ((with_reducible refine Ob.mk ?_); first | (with_reducible rfl) | (first | ((repeat (first | (with_reducible exact grd_p H) | (replace H := grd_k H) | (replace H := out_step H (by assumption)))); done) | rfl | ((repeat (first | exact grd_p H | replace H := grd_k H | replace H := out_step H (by assumption))); done) | ((repeat (first | exact grd_p H | (have hp := grd_p H; exact hp) | replace H := grd_k H | replace H := out_step H (by assumption) | (replace H := bind_some H; obtain ⟨_, _, H⟩ := H))); done) | (repeat (first | exact grd_p H | replace H := grd_k H | replace H := out_step H (by assumption)))))
    | (with_reducible exact True.intro)
    | ((conv => whnf); first
        | (with_reducible refine And.intro ?_ ?_)
        | (with_reducible exact True.intro)
        | ((with_reducible refine Ob.mk ?_); first | (with_reducible rfl) | (first | ((repeat (first | (with_reducible exact grd_p H) | (replace H := grd_k H) | (replace H := out_step H (by assumption)))); done) | rfl | ((repeat (first | exact grd_p H | replace H := grd_k H | replace H := out_step H (by assumption))); done) | ((repeat (first | exact grd_p H | (have hp := grd_p H; exact hp) | replace H := grd_k H | replace H := out_step H (by assumption) | (replace H := bind_some H; obtain ⟨_, _, H⟩ := H))); done) | (repeat (first | exact grd_p H | replace H := grd_k H | replace H := out_step H (by assumption)))))
        | ((with_reducible refine CallW.mk ?_); (repeat (first | replace H := grd_k H | replace H := out_step H (by assumption))); replace H := bind_some H; obtain ⟨y, hy, H⟩ := H; first | ((with_reducible have hz : spec_l17Good _ = some y := hy); clear hz; refine Exists.intro _ (Exists.intro _ ⟨spec_l17Good.call hy ?_, rfl, rfl, ?_⟩)))
        | ((with_reducible refine fin_mk ?_); (repeat (first | replace H := grd_k H | replace H := out_step H (by assumption))); have H := Option.some.inj H; subst H))
    | constructor
def G56 : Env := G55.add 19 [] spec_AreRecords.S
theorem G56_ok : EnvOk Tryz.prog G56 := G55_ok.add ent_19 fun ar h r h1 ⟨a0, y, hy, e1, e2, e3, e4⟩ => by
  subst e3 e4; exact (spec_AreRecords.spec a0 y hy).le e1 e2
attribute [local irreducible] spec_AreRecords

end Go.Proofs.YtaajchikfgbecaaGreatDoor
