/-
  Contracts, printed by a program.
-/
import Derived.Test.YtaajchikfgbecaaGreatDoorC845
namespace Go.Proofs.YtaajchikfgbecaaGreatDoor
open Go.RowKit
attribute [local irreducible] Ob loopwp Sub Spec Fin Again CallW CutC KOb iter joinx outm

attribute [local irreducible] laws_rBig spec_l1Cur_next spec_l1Cur_pick spec_l1Cur_among spec_l1Cur_one spec_l1Cur_weather spec_DrawIsWeather spec_DrawWeatherText impl_within impl_IsWeather strconv_Itoa impl_distance impl_tenths impl_weatherText impl_WeatherText spec_l1In spec_l17Minute spec_l17Wind spec_l17Way spec_l17One spec_l1Num spec_l1Num_f spec_l17Tenths spec_l17Tenths_f spec_l17Text spec_WeatherText strings_Split strings_Cut internal_stringslite_HasPrefix internal_stringslite_TrimPrefix strings_TrimPrefix strings_Replace strings_TrimLeft impl_ParseInt strings_HasPrefix impl_readTenths internal_stringslite_HasSuffix

noncomputable def internal_stringslite_TrimSuffix (a0 : ByteArray) (a1 : ByteArray) : Option (ByteArray) :=
  ((internal_stringslite_HasSuffix a0 a1).bind fun y1 => (cond y1 (grd (0 ≤ (0 : Int) ∧ (0 : Int) ≤ (w64 ((a0.size : Int) - (a1.size : Int))) ∧ (w64 ((a0.size : Int) - (a1.size : Int))) ≤ (a0.size : Int)) ((some (bsub a0 (0 : Int) (w64 ((a0.size : Int) - (a1.size : Int))))))) ((some a0))))
def internal_stringslite_TrimSuffix.res (_ : ByteArray) (_ : ByteArray) (y : ByteArray) : AV := (.v (.string y))
def internal_stringslite_TrimSuffix.out (_ : ByteArray) (_ : ByteArray) (_ : ByteArray) : List (Option LB) := []
def internal_stringslite_TrimSuffix.S (ar : List AV) (h : List (Option LB)) (r : AV) (h1 : List (Option LB)) : Prop := ∃ a0 a1 y, internal_stringslite_TrimSuffix a0 a1 = some y ∧ leL ar [(.v (.string a0)), (.v (.string a1))] ∧ leH h [] ∧ r = internal_stringslite_TrimSuffix.res a0 a1 y ∧ h1 = internal_stringslite_TrimSuffix.out a0 a1 y
theorem internal_stringslite_TrimSuffix.call {ar : List AV} {h : List (Option LB)} {a0 : ByteArray} {a1 : ByteArray} {y : ByteArray} (H : internal_stringslite_TrimSuffix a0 a1 = some y) (h0 : leLk ar [(.v (.string a0)), (.v (.string a1))] (leHk h [])) : internal_stringslite_TrimSuffix.S ar h (internal_stringslite_TrimSuffix.res a0 a1 y) (internal_stringslite_TrimSuffix.out a0 a1 y) := ⟨a0, a1, y, H, (args_ok h0).1, (args_ok h0).2, rfl, rfl⟩
set_option maxHeartbeats 100000000 in
set_option maxRecDepth 100000 in
theorem internal_stringslite_TrimSuffix.spec (a0 : ByteArray) (a1 : ByteArray) (y : ByteArray) (H : internal_stringslite_TrimSuffix a0 a1 = some y) : Spec Tryz.prog 57 [(.v (.string a0)), (.v (.string a1))] [] (internal_stringslite_TrimSuffix.res a0 a1 y) (internal_stringslite_TrimSuffix.out a0 a1 y) := by
  refine spec_intro (G35_ok.at tok []) (ct := []) Tryz.func57 rfl (by kernel_rfl) (by kernel_rfl) rfl ?_
  repeat' first
    | ((with_reducible refine eqg ?_); exact rfl)
    | ((with_reducible refine KOb.mk ?_); kernel_rfl)
    | ((with_reducible intro h); (repeat (first | replace H := grd_k H | replace H := out_step H (by assumption))); first | replace H := cond_t h H | replace H := cond_f h H | exact absurd h (by decide) | skip)
    | ((with_reducible refine Ob.mk ?_); first | (with_reducible rfl) | (first | ((repeat (first | (with_reducible exact grd_p H) | (replace H := grd_k H) | (replace H := out_step H (by assumption)))); done) | rfl | ((repeat (first | exact grd_p H | replace H := grd_k H | replace H := out_step H (by assumption))); done) | ((repeat (first | exact grd_p H | (have hp := grd_p H; exact hp) | replace H := grd_k H | replace H := out_step H (by assumption) | (replace H := bind_some H; obtain ⟨_, _, H⟩ := H))); done) | (repeat (first | exact grd_p H | replace H := grd_k H | replace H := out_step H (by assumption)))))
    | (with_reducible exact True.intro)
    | ((conv => whnf); first
        | (with_reducible refine And.intro ?_ ?_)
        | (with_reducible exact True.intro)
        | ((with_reducible refine Ob.mk ?_); first | (with_reducible rfl) | (first | ((repeat (first | (with_reducible exact grd_p H) | (replace H := grd_k H) | (replace H := out_step H (by assumption)))); done) | rfl | ((repeat (first | exact grd_p H | replace H := grd_k H | replace H := out_step H (by assumption))); done) | ((repeat (first | exact grd_p H | (have hp := grd_p H; exact hp) | replace H := grd_k H | replace H := out_step H (by assumption) | (replace H := bind_some H; obtain ⟨_, _, H⟩ := H))); done) | (repeat (first | exact grd_p H | replace H := grd_k H | replace H := out_step H (by assumption)))))
        | ((with_reducible refine CallW.mk ?_); (repeat (first | replace H := grd_k H | replace H := out_step H (by assumption))); replace H := bind_some H; obtain ⟨y, hy, H⟩ := H; first | ((with_reducible have hz : internal_stringslite_HasSuffix _ _ = some y := hy); clear hz; refine Exists.intro _ (Exists.intro _ ⟨internal_stringslite_HasSuffix.call hy ?_, rfl, rfl, ?_⟩)))
        | ((with_reducible refine fin_mk ?_); (repeat (first | replace H := grd_k H | replace H := out_step H (by assumption))); have H := Option.some.inj H; subst H))
    | constructor
def G36 : Env := G35.add 57 [] internal_stringslite_TrimSuffix.S
theorem G36_ok : EnvOk Tryz.prog G36 := G35_ok.add ent_57 fun ar h r h1 ⟨a0, a1, y, hy, e1, e2, e3, e4⟩ => by
  subst e3 e4; exact (internal_stringslite_TrimSuffix.spec a0 a1 y hy).le e1 e2
attribute [local irreducible] internal_stringslite_TrimSuffix

noncomputable def strings_TrimSuffix (a0 : ByteArray) (a1 : ByteArray) : Option (ByteArray) :=
  ((internal_stringslite_TrimSuffix a0 a1).bind fun y1 => (some y1))
def strings_TrimSuffix.res (_ : ByteArray) (_ : ByteArray) (y : ByteArray) : AV := (.v (.string y))
def strings_TrimSuffix.out (_ : ByteArray) (_ : ByteArray) (_ : ByteArray) : List (Option LB) := []
def strings_TrimSuffix.S (ar : List AV) (h : List (Option LB)) (r : AV) (h1 : List (Option LB)) : Prop := ∃ a0 a1 y, strings_TrimSuffix a0 a1 = some y ∧ leL ar [(.v (.string a0)), (.v (.string a1))] ∧ leH h [] ∧ r = strings_TrimSuffix.res a0 a1 y ∧ h1 = strings_TrimSuffix.out a0 a1 y
theorem strings_TrimSuffix.call {ar : List AV} {h : List (Option LB)} {a0 : ByteArray} {a1 : ByteArray} {y : ByteArray} (H : strings_TrimSuffix a0 a1 = some y) (h0 : leLk ar [(.v (.string a0)), (.v (.string a1))] (leHk h [])) : strings_TrimSuffix.S ar h (strings_TrimSuffix.res a0 a1 y) (strings_TrimSuffix.out a0 a1 y) := ⟨a0, a1, y, H, (args_ok h0).1, (args_ok h0).2, rfl, rfl⟩
set_option maxHeartbeats 100000000 in
set_option maxRecDepth 100000 in
theorem strings_TrimSuffix.spec (a0 : ByteArray) (a1 : ByteArray) (y : ByteArray) (H : strings_TrimSuffix a0 a1 = some y) : Spec Tryz.prog 28 [(.v (.string a0)), (.v (.string a1))] [] (strings_TrimSuffix.res a0 a1 y) (strings_TrimSuffix.out a0 a1 y) := by
  refine spec_intro (G36_ok.at tok []) (ct := []) Tryz.func28 rfl (by kernel_rfl) (by kernel_rfl) rfl ?_
  repeat' first
    | ((with_reducible refine eqg ?_); exact rfl)
    | ((with_reducible refine KOb.mk ?_); kernel_rfl)
    | ((with_reducible intro h); (repeat (first | replace H := grd_k H | replace H := out_step H (by assumption))); first | replace H := cond_t h H | replace H := cond_f h H | exact absurd h (by decide) | skip)
    | ((with_reducible refine Ob.mk ?_); first | (with_reducible rfl) | (first | ((repeat (first | (with_reducible exact grd_p H) | (replace H := grd_k H) | (replace H := out_step H (by assumption)))); done) | rfl | ((repeat (first | exact grd_p H | replace H := grd_k H | replace H := out_step H (by assumption))); done) | ((repeat (first | exact grd_p H | (have hp := grd_p H; exact hp) | replace H := grd_k H | replace H := out_step H (by assumption) | (replace H := bind_some H; obtain ⟨_, _, H⟩ := H))); done) | (repeat (first | exact grd_p H | replace H := grd_k H | replace H := out_step H (by assumption)))))
    | (with_reducible exact True.intro)
    | ((conv => whnf); first
        | (with_reducible refine And.intro ?_ ?_)
        | (with_reducible exact True.intro)
        | ((with_reducible refine Ob.mk ?_); first | (with_reducible rfl) | (first | ((repeat (first | (with_reducible exact grd_p H) | (replace H := grd_k H) | (replace H := out_step H (by assumption)))); done) | rfl | ((repeat (first | exact grd_p H | replace H := grd_k H | replace H := out_step H (by assumption))); done) | ((repeat (first | exact grd_p H | (have hp := grd_p H; exact hp) | replace H := grd_k H | replace H := out_step H (by assumption) | (replace H := bind_some H; obtain ⟨_, _, H⟩ := H))); done) | (repeat (first | exact grd_p H | replace H := grd_k H | replace H := out_step H (by assumption)))))
        | ((with_reducible refine CallW.mk ?_); (repeat (first | replace H := grd_k H | replace H := out_step H (by assumption))); replace H := bind_some H; obtain ⟨y, hy, H⟩ := H; first | ((with_reducible have hz : internal_stringslite_TrimSuffix _ _ = some y := hy); clear hz; refine Exists.intro _ (Exists.intro _ ⟨internal_stringslite_TrimSuffix.call hy ?_, rfl, rfl, ?_⟩)))
        | ((with_reducible refine fin_mk ?_); (repeat (first | replace H := grd_k H | replace H := out_step H (by assumption))); have H := Option.some.inj H; subst H))
    | constructor
def G37 : Env := G36.add 28 [] strings_TrimSuffix.S
theorem G37_ok : EnvOk Tryz.prog G37 := G36_ok.add ent_28 fun ar h r h1 ⟨a0, a1, y, hy, e1, e2, e3, e4⟩ => by
  subst e3 e4; exact (strings_TrimSuffix.spec a0 a1 y hy).le e1 e2
attribute [local irreducible] strings_TrimSuffix

noncomputable def impl_ParseWeather (a0 : ByteArray) : Option (Weather × Bool) :=
  ((strings_Split a0 (ByteArray.mk #[44, 32])).bind fun y1 => (cond (decide ((y1.length : Int) < (2 : Int))) ((some (((0 : Int), (0 : Int), (0 : Int), (0 : Int), false, ()), false))) (cond (decide ((3 : Int) < (y1.length : Int))) ((some (((0 : Int), (0 : Int), (0 : Int), (0 : Int), false, ()), false))) (grd (0 ≤ (0 : Int) ∧ (0 : Int) < (y1.length : Int)) ((strings_Cut (y1.getD ((0 : Int).toNat) (ByteArray.mk #[])) (ByteArray.mk #[58, 32])).bind fun y2 => ((strings_Cut y2.2.1 (ByteArray.mk #[32, 109, 47, 115, 32, 102, 114, 111, 109, 32])).bind fun y3 => (((impl_readTenths y3.1).bind fun y4 => (grd (0 ≤ (1 : Int) ∧ (1 : Int) < (y1.length : Int)) ((strings_TrimSuffix (y1.getD ((1 : Int).toNat) (ByteArray.mk #[])) (ByteArray.mk #[32, 67])).bind fun y5 => ((impl_readTenths y5).bind fun y6 => (some ((Tg.mk : Tg 1), y2.1, y3.2.1, y4, y6, (decide ((y1.length : Int) = (3 : Int))))))))).bind fun z7 => ((impl_ParseInt z7.2.1).bind fun y8 => ((impl_ParseInt z7.2.2.1).bind fun y9 => ((impl_IsWeather (y8.1, z7.2.2.2.1, y9.1, z7.2.2.2.2.1, z7.2.2.2.2.2, ())).bind fun y10 => (cond (!y10) ((some (((0 : Int), (0 : Int), (0 : Int), (0 : Int), false, ()), false))) ((impl_weatherText (y8.1, z7.2.2.2.1, y9.1, z7.2.2.2.2.1, z7.2.2.2.2.2, ())).bind fun y11 => (cond (!decide (y11 = a0)) ((some (((0 : Int), (0 : Int), (0 : Int), (0 : Int), false, ()), false))) ((some ((y8.1, z7.2.2.2.1, y9.1, z7.2.2.2.2.1, z7.2.2.2.2.2, ()), true))))))))))))))))
def impl_ParseWeather.res (_ : ByteArray) (y : Weather × Bool) : AV := (.tup [(.agg [(.v (.int .i64 y.1.1)), (.v (.int .i64 y.1.2.1)), (.v (.int .i64 y.1.2.2.1)), (.v (.int .i64 y.1.2.2.2.1)), (.bl y.1.2.2.2.2.1)]), (.bl y.2)])
def impl_ParseWeather.out (_ : ByteArray) (_ : Weather × Bool) : List (Option LB) := []
def impl_ParseWeather.S (ar : List AV) (h : List (Option LB)) (r : AV) (h1 : List (Option LB)) : Prop := ∃ a0 y, impl_ParseWeather a0 = some y ∧ leL ar [(.v (.string a0))] ∧ leH h [] ∧ r = impl_ParseWeather.res a0 y ∧ h1 = impl_ParseWeather.out a0 y
theorem impl_ParseWeather.call {ar : List AV} {h : List (Option LB)} {a0 : ByteArray} {y : Weather × Bool} (H : impl_ParseWeather a0 = some y) (h0 : leLk ar [(.v (.string a0))] (leHk h [])) : impl_ParseWeather.S ar h (impl_ParseWeather.res a0 y) (impl_ParseWeather.out a0 y) := ⟨a0, y, H, (args_ok h0).1, (args_ok h0).2, rfl, rfl⟩
set_option maxHeartbeats 100000000 in
set_option maxRecDepth 100000 in
theorem impl_ParseWeather.spec (a0 : ByteArray) (y : Weather × Bool) (H : impl_ParseWeather a0 = some y) : Spec Tryz.prog 9 [(.v (.string a0))] [] (impl_ParseWeather.res a0 y) (impl_ParseWeather.out a0 y) := by
  refine spec_intro (G37_ok.at tok []) (ct := [(7, none), (4, some [0, 2, 4, 64, 65, 66, 67]), (6, some [0, 2, 4, 5, 8, 9, 64, 65, 66, 67]), (10, some [2, 11, 68])]) Tryz.func9 rfl (by kernel_rfl) (by kernel_rfl) rfl ?_
  repeat' first
    | ((with_reducible refine eqg ?_); exact rfl)
    | ((with_reducible refine KOb.mk ?_); kernel_rfl)
    | ((with_reducible intro h); (repeat (first | replace H := grd_k H | replace H := out_step H (by assumption))); first | replace H := cond_t h H | replace H := cond_f h H | exact absurd h (by decide) | skip)
    | ((with_reducible refine Ob.mk ?_); first | (with_reducible rfl) | (first | ((repeat (first | (with_reducible exact grd_p H) | (replace H := grd_k H) | (replace H := out_step H (by assumption)))); done) | rfl | ((repeat (first | exact grd_p H | replace H := grd_k H | replace H := out_step H (by assumption))); done) | ((repeat (first | exact grd_p H | (have hp := grd_p H; exact hp) | replace H := grd_k H | replace H := out_step H (by assumption) | (replace H := bind_some H; obtain ⟨_, _, H⟩ := H))); done) | (repeat (first | exact grd_p H | replace H := grd_k H | replace H := out_step H (by assumption)))))
    | (with_reducible exact True.intro)
    | ((conv => whnf); first
        | (with_reducible refine And.intro ?_ ?_)
        | (with_reducible exact True.intro)
        | ((with_reducible refine Ob.mk ?_); first | (with_reducible rfl) | (first | ((repeat (first | (with_reducible exact grd_p H) | (replace H := grd_k H) | (replace H := out_step H (by assumption)))); done) | rfl | ((repeat (first | exact grd_p H | replace H := grd_k H | replace H := out_step H (by assumption))); done) | ((repeat (first | exact grd_p H | (have hp := grd_p H; exact hp) | replace H := grd_k H | replace H := out_step H (by assumption) | (replace H := bind_some H; obtain ⟨_, _, H⟩ := H))); done) | (repeat (first | exact grd_p H | replace H := grd_k H | replace H := out_step H (by assumption)))))
        | ((with_reducible refine CallW.mk ?_); (repeat (first | replace H := grd_k H | replace H := out_step H (by assumption))); replace H := bind_some H; obtain ⟨y, hy, H⟩ := H; first | ((with_reducible have hz : strings_Split _ _ = some y := hy); clear hz; refine Exists.intro _ (Exists.intro _ ⟨strings_Split.call hy ?_, rfl, rfl, ?_⟩)) | ((with_reducible have hz : strings_Cut _ _ = some y := hy); clear hz; refine Exists.intro _ (Exists.intro _ ⟨strings_Cut.call hy ?_, rfl, rfl, ?_⟩)) | ((with_reducible have hz : impl_readTenths _ = some y := hy); clear hz; refine Exists.intro _ (Exists.intro _ ⟨impl_readTenths.call hy ?_, rfl, rfl, ?_⟩)) | ((with_reducible have hz : strings_TrimSuffix _ _ = some y := hy); clear hz; refine Exists.intro _ (Exists.intro _ ⟨strings_TrimSuffix.call hy ?_, rfl, rfl, ?_⟩)) | ((with_reducible have hz : impl_ParseInt _ = some y := hy); clear hz; refine Exists.intro _ (Exists.intro _ ⟨impl_ParseInt.call hy ?_, rfl, rfl, ?_⟩)) | ((with_reducible have hz : impl_IsWeather _ = some y := hy); clear hz; refine Exists.intro _ (Exists.intro _ ⟨impl_IsWeather.call hy ?_, rfl, rfl, ?_⟩)) | ((with_reducible have hz : impl_weatherText _ = some y := hy); clear hz; refine Exists.intro _ (Exists.intro _ ⟨impl_weatherText.call hy ?_, rfl, rfl, ?_⟩)))
        | ((with_reducible refine cutAt (id := 7) ?_); (repeat (first | replace H := grd_k H | replace H := out_step H (by assumption))); first | (replace H := bind_some H; obtain ⟨z, hz, H⟩ := H; have hT : Tg 1 × ByteArray × ByteArray × Int × Int × Bool := z; clear hT; refine CutC.mk (id := 7) ⟨sl [(0, (.v (.string a0))), (2, (.loc 0 0 0)), (5, (.v (.string z.2.1))), (9, (.v (.string z.2.2.1))), (11, (.loc 1 0 0))], [some (.box 25 [(.v (.int .i64 (0 : Int))), (.v (.int .i64 (0 : Int))), (.v (.int .i64 (0 : Int))), (.v (.int .i64 (0 : Int))), (.v (.bool false))]), some (.box 25 [(.v (.int .i64 (0 : Int))), (.v (.int .i64 z.2.2.2.1)), (.v (.int .i64 (0 : Int))), (.v (.int .i64 z.2.2.2.2.1)), (.bl z.2.2.2.2.2)])]⟩ ?_ ?_; (replace H := hz)))
        | ((repeat (first | replace H := grd_k H | replace H := out_step H (by assumption))); have H := Option.some.inj H; subst H; with_reducible refine sub_auto ?_)
        | ((with_reducible refine fin_mk ?_); (repeat (first | replace H := grd_k H | replace H := out_step H (by assumption))); have H := Option.some.inj H; subst H))
    | constructor
def G38 : Env := G37.add 9 [] impl_ParseWeather.S
theorem G38_ok : EnvOk Tryz.prog G38 := G37_ok.add ent_9 fun ar h r h1 ⟨a0, y, hy, e1, e2, e3, e4⟩ => by
  subst e3 e4; exact (impl_ParseWeather.spec a0 y hy).le e1 e2
attribute [local irreducible] impl_ParseWeather

noncomputable def spec_l1Cur_spoilt (a0 : l1Cur) (a1 : ByteArray) (a2 : ByteArray) : Option (ByteArray × l1Cur) :=
  (cond (decide (a1 = (ByteArray.mk #[]))) (grd (0 ≤ (0 : Int) ∧ (0 : Int) ≤ (1 : Int) ∧ (1 : Int) ≤ (a2.size : Int)) ((some ((bsub a2 (0 : Int) (1 : Int)), (a0.1, a0.2.1, a0.2.2.1, ()))))) ((spec_l1Cur_pick (a0.1, a0.2.1, a0.2.2.1, ()) (a1.size : Int)).bind fun y1 => ((spec_l1Cur_pick (y1.2.1, y1.2.2.1, y1.2.2.2.1, ()) (a2.size : Int)).bind fun y2 => (grd (0 ≤ y2.1 ∧ y2.1 ≤ (a2.size : Int) ∧ (a2.size : Int) ≤ (a2.size : Int)) (grd (0 ≤ (0 : Int) ∧ (0 : Int) ≤ (1 : Int) ∧ (1 : Int) ≤ ((bsub a2 y2.1 (a2.size : Int)).size : Int)) ((spec_l1Cur_pick (y2.2.1, y2.2.2.1, y2.2.2.2.1, ()) (3 : Int)).bind fun y3 => (cond (decide (y3.1 = (0 : Int))) (grd (0 ≤ (0 : Int) ∧ (0 : Int) ≤ y1.1 ∧ y1.1 ≤ (a1.size : Int)) (grd ((bsub a1 (0 : Int) y1.1).size + (bsub (bsub a2 y2.1 (a2.size : Int)) (0 : Int) (1 : Int)).size ≤ 9223372036854775807) (grd (0 ≤ y1.1 ∧ y1.1 ≤ (a1.size : Int) ∧ (a1.size : Int) ≤ (a1.size : Int)) (grd (((bsub a1 (0 : Int) y1.1) ++ (bsub (bsub a2 y2.1 (a2.size : Int)) (0 : Int) (1 : Int))).size + (bsub a1 y1.1 (a1.size : Int)).size ≤ 9223372036854775807) ((some ((((bsub a1 (0 : Int) y1.1) ++ (bsub (bsub a2 y2.1 (a2.size : Int)) (0 : Int) (1 : Int))) ++ (bsub a1 y1.1 (a1.size : Int))), (y3.2.1, y3.2.2.1, y3.2.2.2.1, ())))))))) (cond (decide (y3.1 = (1 : Int))) (grd (0 ≤ (0 : Int) ∧ (0 : Int) ≤ y1.1 ∧ y1.1 ≤ (a1.size : Int)) (grd ((bsub a1 (0 : Int) y1.1).size + (bsub (bsub a2 y2.1 (a2.size : Int)) (0 : Int) (1 : Int)).size ≤ 9223372036854775807) (grd (0 ≤ (w64 (y1.1 + (1 : Int))) ∧ (w64 (y1.1 + (1 : Int))) ≤ (a1.size : Int) ∧ (a1.size : Int) ≤ (a1.size : Int)) (grd (((bsub a1 (0 : Int) y1.1) ++ (bsub (bsub a2 y2.1 (a2.size : Int)) (0 : Int) (1 : Int))).size + (bsub a1 (w64 (y1.1 + (1 : Int))) (a1.size : Int)).size ≤ 9223372036854775807) ((some ((((bsub a1 (0 : Int) y1.1) ++ (bsub (bsub a2 y2.1 (a2.size : Int)) (0 : Int) (1 : Int))) ++ (bsub a1 (w64 (y1.1 + (1 : Int))) (a1.size : Int))), (y3.2.1, y3.2.2.1, y3.2.2.2.1, ())))))))) (grd (0 ≤ (0 : Int) ∧ (0 : Int) ≤ y1.1 ∧ y1.1 ≤ (a1.size : Int)) (grd (0 ≤ (w64 (y1.1 + (1 : Int))) ∧ (w64 (y1.1 + (1 : Int))) ≤ (a1.size : Int) ∧ (a1.size : Int) ≤ (a1.size : Int)) (grd ((bsub a1 (0 : Int) y1.1).size + (bsub a1 (w64 (y1.1 + (1 : Int))) (a1.size : Int)).size ≤ 9223372036854775807) ((some (((bsub a1 (0 : Int) y1.1) ++ (bsub a1 (w64 (y1.1 + (1 : Int))) (a1.size : Int))), (y3.2.1, y3.2.2.1, y3.2.2.2.1, ())))))))))))))))
def spec_l1Cur_spoilt.res (_ : l1Cur) (_ : ByteArray) (_ : ByteArray) (y : ByteArray × l1Cur) : AV := (.v (.string y.1))
def spec_l1Cur_spoilt.out (_ : l1Cur) (_ : ByteArray) (_ : ByteArray) (y : ByteArray × l1Cur) : List (Option LB) := [some (.box 54 [(.tree (.int .u8) y.2.1), (.v (.int .i64 y.2.2.1)), (.v (.int .u64 y.2.2.2.1))])]
def spec_l1Cur_spoilt.S (ar : List AV) (h : List (Option LB)) (r : AV) (h1 : List (Option LB)) : Prop := ∃ a0 a1 a2 y, spec_l1Cur_spoilt a0 a1 a2 = some y ∧ leL ar [(.loc 0 0 0), (.v (.string a1)), (.v (.string a2))] ∧ leH h [some (.box 54 [(.tree (.int .u8) a0.1), (.v (.int .i64 a0.2.1)), (.v (.int .u64 a0.2.2.1))])] ∧ r = spec_l1Cur_spoilt.res a0 a1 a2 y ∧ h1 = spec_l1Cur_spoilt.out a0 a1 a2 y
theorem spec_l1Cur_spoilt.call {ar : List AV} {h : List (Option LB)} {a0 : l1Cur} {a1 : ByteArray} {a2 : ByteArray} {y : ByteArray × l1Cur} (H : spec_l1Cur_spoilt a0 a1 a2 = some y) (h0 : leLk ar [(.loc 0 0 0), (.v (.string a1)), (.v (.string a2))] (leHk h [some (.box 54 [(.tree (.int .u8) a0.1), (.v (.int .i64 a0.2.1)), (.v (.int .u64 a0.2.2.1))])])) : spec_l1Cur_spoilt.S ar h (spec_l1Cur_spoilt.res a0 a1 a2 y) (spec_l1Cur_spoilt.out a0 a1 a2 y) := ⟨a0, a1, a2, y, H, (args_ok h0).1, (args_ok h0).2, rfl, rfl⟩
set_option maxHeartbeats 100000000 in
set_option maxRecDepth 100000 in
theorem spec_l1Cur_spoilt.spec (a0 : l1Cur) (a1 : ByteArray) (a2 : ByteArray) (y : ByteArray × l1Cur) (H : spec_l1Cur_spoilt a0 a1 a2 = some y) : Spec Tryz.prog 33 [(.loc 0 0 0), (.v (.string a1)), (.v (.string a2))] [some (.box 54 [(.tree (.int .u8) a0.1), (.v (.int .i64 a0.2.1)), (.v (.int .u64 a0.2.2.1))])] (spec_l1Cur_spoilt.res a0 a1 a2 y) (spec_l1Cur_spoilt.out a0 a1 a2 y) := by
  refine spec_intro (G38_ok.at tok []) (ct := [(5, some [0, 1, 7, 8]), (10, some [1, 7])]) Tryz.func33 rfl (by kernel_rfl) (by kernel_rfl) rfl ?_
  repeat' first
    | ((with_reducible refine eqg ?_); exact rfl)
    | ((with_reducible refine KOb.mk ?_); kernel_rfl)
    | ((with_reducible intro h); (repeat (first | replace H := grd_k H | replace H := out_step H (by assumption))); first | replace H := cond_t h H | replace H := cond_f h H | exact absurd h (by decide) | skip)
    | ((with_reducible refine Ob.mk ?_); first | (with_reducible rfl) | (first | ((repeat (first | (with_reducible exact grd_p H) | (replace H := grd_k H) | (replace H := out_step H (by assumption)))); done) | rfl | ((repeat (first | exact grd_p H | replace H := grd_k H | replace H := out_step H (by assumption))); done) | ((repeat (first | exact grd_p H | (have hp := grd_p H; exact hp) | replace H := grd_k H | replace H := out_step H (by assumption) | (replace H := bind_some H; obtain ⟨_, _, H⟩ := H))); done) | (repeat (first | exact grd_p H | replace H := grd_k H | replace H := out_step H (by assumption)))))
    | (with_reducible exact True.intro)
    | ((conv => whnf); first
        | (with_reducible refine And.intro ?_ ?_)
        | (with_reducible exact True.intro)
        | ((with_reducible refine Ob.mk ?_); first | (with_reducible rfl) | (first | ((repeat (first | (with_reducible exact grd_p H) | (replace H := grd_k H) | (replace H := out_step H (by assumption)))); done) | rfl | ((repeat (first | exact grd_p H | replace H := grd_k H | replace H := out_step H (by assumption))); done) | ((repeat (first | exact grd_p H | (have hp := grd_p H; exact hp) | replace H := grd_k H | replace H := out_step H (by assumption) | (replace H := bind_some H; obtain ⟨_, _, H⟩ := H))); done) | (repeat (first | exact grd_p H | replace H := grd_k H | replace H := out_step H (by assumption)))))
        | ((with_reducible refine CallW.mk ?_); (repeat (first | replace H := grd_k H | replace H := out_step H (by assumption))); replace H := bind_some H; obtain ⟨y, hy, H⟩ := H; first | ((with_reducible have hz : spec_l1Cur_pick _ _ = some y := hy); clear hz; refine Exists.intro _ (Exists.intro _ ⟨spec_l1Cur_pick.call hy ?_, rfl, rfl, ?_⟩)))
        | ((with_reducible refine fin_mk ?_); (repeat (first | replace H := grd_k H | replace H := out_step H (by assumption))); have H := Option.some.inj H; subst H))
    | constructor
def G39 : Env := G38.add 33 [true] spec_l1Cur_spoilt.S
theorem G39_ok : EnvOk Tryz.prog G39 := G38_ok.add ent_33 fun ar h r h1 ⟨a0, a1, a2, y, hy, e1, e2, e3, e4⟩ => by
  subst e3 e4; exact (spec_l1Cur_spoilt.spec a0 a1 a2 y hy).le e1 e2
attribute [local irreducible] spec_l1Cur_spoilt

noncomputable def spec_DrawParseWeather (a0 : (List Int)) : Option (ByteArray) :=
  ((spec_l1Cur_among (a0, (0 : Int), (0 : Int), ()) [(0 : Int), (10 : Int), (9999 : Int)]).bind fun y1 => ((spec_l1Cur_weather (y1.2.1, y1.2.2.1, y1.2.2.2.1, ()) y1.1).bind fun y2 => ((spec_WeatherText (y2.1.1, y2.1.2.1, y2.1.2.2.1, y2.1.2.2.2.1, y2.1.2.2.2.2.1, ())).bind fun y3 => ((spec_l1Cur_one (y2.2.1, y2.2.2.1, y2.2.2.2.1, ()) (4 : Int)).bind fun y4 => (cond y4.1 ((spec_l1Cur_spoilt (y4.2.1, y4.2.2.1, y4.2.2.2.1, ()) y3.1 (ByteArray.mk #[48, 32, 46, 45, 67, 49])).bind fun y5 => (some y5.1)) ((some y3.1)))))))
def spec_DrawParseWeather.res (_ : (List Int)) (y : ByteArray) : AV := (.v (.string y))
def spec_DrawParseWeather.out (_ : (List Int)) (_ : ByteArray) : List (Option LB) := []
def spec_DrawParseWeather.S (ar : List AV) (h : List (Option LB)) (r : AV) (h1 : List (Option LB)) : Prop := ∃ a0 y, spec_DrawParseWeather a0 = some y ∧ leL ar [(.tree (.int .u8) a0)] ∧ leH h [] ∧ r = spec_DrawParseWeather.res a0 y ∧ h1 = spec_DrawParseWeather.out a0 y
theorem spec_DrawParseWeather.call {ar : List AV} {h : List (Option LB)} {a0 : (List Int)} {y : ByteArray} (H : spec_DrawParseWeather a0 = some y) (h0 : leLk ar [(.tree (.int .u8) a0)] (leHk h [])) : spec_DrawParseWeather.S ar h (spec_DrawParseWeather.res a0 y) (spec_DrawParseWeather.out a0 y) := ⟨a0, y, H, (args_ok h0).1, (args_ok h0).2, rfl, rfl⟩
set_option maxHeartbeats 100000000 in
set_option maxRecDepth 100000 in
theorem spec_DrawParseWeather.spec (a0 : (List Int)) (y : ByteArray) (H : spec_DrawParseWeather a0 = some y) : Spec Tryz.prog 10 [(.tree (.int .u8) a0)] [] (spec_DrawParseWeather.res a0 y) (spec_DrawParseWeather.out a0 y) := by
  refine spec_intro (G39_ok.at tok []) (ct := [(3, some [3, 4])]) Tryz.func10 rfl (by kernel_rfl) (by kernel_rfl) rfl ?_
  repeat' first
    | ((with_reducible refine eqg ?_); exact rfl)
    | ((with_reducible refine KOb.mk ?_); kernel_rfl)
    | ((with_reducible intro h); (repeat (first | replace H := grd_k H | replace H := out_step H (by assumption))); first | replace H := cond_t h H | replace H := cond_f h H | exact absurd h (by decide) | skip)
    | ((with_reducible refine Ob.mk ?_); first | (with_reducible rfl) | (first | ((repeat (first | (with_reducible exact grd_p H) | (replace H := grd_k H) | (replace H := out_step H (by assumption)))); done) | rfl | ((repeat (first | exact grd_p H | replace H := grd_k H | replace H := out_step H (by assumption))); done) | ((repeat (first | exact grd_p H | (have hp := grd_p H; exact hp) | replace H := grd_k H | replace H := out_step H (by assumption) | (replace H := bind_some H; obtain ⟨_, _, H⟩ := H))); done) | (repeat (first | exact grd_p H | replace H := grd_k H | replace H := out_step H (by assumption)))))
    | (with_reducible exact True.intro)
    | ((conv => whnf); first
        | (with_reducible refine And.intro ?_ ?_)
        | (with_reducible exact True.intro)
        | ((with_reducible refine Ob.mk ?_); first | (with_reducible rfl) | (first | ((repeat (first | (with_reducible exact grd_p H) | (replace H := grd_k H) | (replace H := out_step H (by assumption)))); done) | rfl | ((repeat (first | exact grd_p H | replace H := grd_k H | replace H := out_step H (by assumption))); done) | ((repeat (first | exact grd_p H | (have hp := grd_p H; exact hp) | replace H := grd_k H | replace H := out_step H (by assumption) | (replace H := bind_some H; obtain ⟨_, _, H⟩ := H))); done) | (repeat (first | exact grd_p H | replace H := grd_k H | replace H := out_step H (by assumption)))))
        | ((with_reducible refine CallW.mk ?_); (repeat (first | replace H := grd_k H | replace H := out_step H (by assumption))); replace H := bind_some H; obtain ⟨y, hy, H⟩ := H; first | ((with_reducible have hz : spec_l1Cur_among _ _ = some y := hy); clear hz; refine Exists.intro _ (Exists.intro _ ⟨spec_l1Cur_among.call hy ?_, rfl, rfl, ?_⟩)) | ((with_reducible have hz : spec_l1Cur_weather _ _ = some y := hy); clear hz; refine Exists.intro _ (Exists.intro _ ⟨spec_l1Cur_weather.call hy ?_, rfl, rfl, ?_⟩)) | ((with_reducible have hz : spec_WeatherText _ = some y := hy); clear hz; refine Exists.intro _ (Exists.intro _ ⟨spec_WeatherText.call hy ?_, rfl, rfl, ?_⟩)) | ((with_reducible have hz : spec_l1Cur_one _ _ = some y := hy); clear hz; refine Exists.intro _ (Exists.intro _ ⟨spec_l1Cur_one.call hy ?_, rfl, rfl, ?_⟩)) | ((with_reducible have hz : spec_l1Cur_spoilt _ _ _ = some y := hy); clear hz; refine Exists.intro _ (Exists.intro _ ⟨spec_l1Cur_spoilt.call hy ?_, rfl, rfl, ?_⟩)))
        | ((with_reducible refine fin_mk ?_); (repeat (first | replace H := grd_k H | replace H := out_step H (by assumption))); have H := Option.some.inj H; subst H))
    | constructor
def G40 : Env := G39.add 10 [] spec_DrawParseWeather.S
theorem G40_ok : EnvOk Tryz.prog G40 := G39_ok.add ent_10 fun ar h r h1 ⟨a0, y, hy, e1, e2, e3, e4⟩ => by
  subst e3 e4; exact (spec_DrawParseWeather.spec a0 y hy).le e1 e2
attribute [local irreducible] spec_DrawParseWeather

noncomputable def spec_l1Split_loop1 (a0 : ByteArray) (a1 : Int) (v4 : Int) (v5 : Int) (v6 : (List ByteArray)) : Option (Lp (Int × Int × (List ByteArray)) ((Int × (List ByteArray)))) :=
  (cond (decide (v5 < (a0.size : Int))) (grd (0 ≤ v5 ∧ v5 < (a0.size : Int)) (cond (decide ((bAt a0 v5) = a1)) (grd (0 ≤ v4 ∧ v4 ≤ v5 ∧ v5 ≤ (a0.size : Int)) (grd (v6.length + [(bsub a0 v4 v5)].length ≤ 140737488355328 / 16 ∧ v6.length + [(bsub a0 v4 v5)].length ≤ 140737488355328) (some (.go ((w64 (v5 + (1 : Int))), (w64 (v5 + (1 : Int))), (v6 ++ [(bsub a0 v4 v5)])))))) (some (.go (v4, (w64 (v5 + (1 : Int))), v6))))) ((some (.out (v4, v6)))))
noncomputable def spec_l1Split (a0 : ByteArray) (a1 : Int) : Option ((List ByteArray)) :=
  ((iter (fun s => spec_l1Split_loop1 a0 a1 s.1 s.2.1 s.2.2) ((0 : Int), (0 : Int), ([] : List ByteArray))).bind (fun r7 => (grd (0 ≤ r7.1 ∧ r7.1 ≤ (a0.size : Int) ∧ (a0.size : Int) ≤ (a0.size : Int)) (grd (r7.2.length + [(bsub a0 r7.1 (a0.size : Int))].length ≤ 140737488355328 / 16 ∧ r7.2.length + [(bsub a0 r7.1 (a0.size : Int))].length ≤ 140737488355328) ((some (r7.2 ++ [(bsub a0 r7.1 (a0.size : Int))])))))))
def spec_l1Split.res (_ : ByteArray) (_ : Int) (_ : (List ByteArray)) : AV := (.own 0)
def spec_l1Split.out (_ : ByteArray) (_ : Int) (y : (List ByteArray)) : List (Option LB) := [some (.arr 9 .str y)]
def spec_l1Split.S (ar : List AV) (h : List (Option LB)) (r : AV) (h1 : List (Option LB)) : Prop := ∃ a0 a1 y, spec_l1Split a0 a1 = some y ∧ leL ar [(.v (.string a0)), (.v (.int .u8 a1))] ∧ leH h [] ∧ r = spec_l1Split.res a0 a1 y ∧ h1 = spec_l1Split.out a0 a1 y
theorem spec_l1Split.call {ar : List AV} {h : List (Option LB)} {a0 : ByteArray} {a1 : Int} {y : (List ByteArray)} (H : spec_l1Split a0 a1 = some y) (h0 : leLk ar [(.v (.string a0)), (.v (.int .u8 a1))] (leHk h [])) : spec_l1Split.S ar h (spec_l1Split.res a0 a1 y) (spec_l1Split.out a0 a1 y) := ⟨a0, a1, y, H, (args_ok h0).1, (args_ok h0).2, rfl, rfl⟩
set_option maxHeartbeats 100000000 in
set_option maxRecDepth 100000 in
theorem spec_l1Split.spec (a0 : ByteArray) (a1 : Int) (y : (List ByteArray)) (H : spec_l1Split a0 a1 = some y) : Spec Tryz.prog 34 [(.v (.string a0)), (.v (.int .u8 a1))] [] (spec_l1Split.res a0 a1 y) (spec_l1Split.out a0 a1 y) := by
  refine spec_intro (G40_ok.at tok []) (ct := [(8, some [0, 1, 5, 7])]) Tryz.func34 rfl (by kernel_rfl) (by kernel_rfl) rfl ?_
  repeat' first
    | ((with_reducible refine eqg ?_); exact rfl)
    | ((with_reducible refine KOb.mk ?_); kernel_rfl)
    | ((with_reducible intro h); (repeat (first | replace H := grd_k H | replace H := out_step H (by assumption))); first | replace H := cond_t h H | replace H := cond_f h H | exact absurd h (by decide) | skip)
    | ((with_reducible refine Ob.mk ?_); first | (with_reducible rfl) | (first | ((repeat (first | (with_reducible exact grd_p H) | (replace H := grd_k H) | (replace H := out_step H (by assumption)))); done) | rfl | ((repeat (first | exact grd_p H | replace H := grd_k H | replace H := out_step H (by assumption))); done) | ((repeat (first | exact grd_p H | (have hp := grd_p H; exact hp) | replace H := grd_k H | replace H := out_step H (by assumption) | (replace H := bind_some H; obtain ⟨_, _, H⟩ := H))); done) | (repeat (first | exact grd_p H | replace H := grd_k H | replace H := out_step H (by assumption)))))
    | (with_reducible exact True.intro)
    | ((conv => whnf); first
        | (with_reducible refine And.intro ?_ ?_)
        | (with_reducible exact True.intro)
        | ((with_reducible refine Ob.mk ?_); first | (with_reducible rfl) | (first | ((repeat (first | (with_reducible exact grd_p H) | (replace H := grd_k H) | (replace H := out_step H (by assumption)))); done) | rfl | ((repeat (first | exact grd_p H | replace H := grd_k H | replace H := out_step H (by assumption))); done) | ((repeat (first | exact grd_p H | (have hp := grd_p H; exact hp) | replace H := grd_k H | replace H := out_step H (by assumption) | (replace H := bind_some H; obtain ⟨_, _, H⟩ := H))); done) | (repeat (first | exact grd_p H | replace H := grd_k H | replace H := out_step H (by assumption)))))
        | ((repeat (first | replace H := grd_k H | replace H := out_step H (by assumption))); refine loop_iter (G40_ok.at tok []) (ct := [(8, some [0, 1, 5, 7])]) (F := (fun s1 : Int × Int × (List ByteArray) => ⟨sl [(0, (.v (.string a0))), (1, (.v (.int .u8 a1))), (5, (.own 0)), (6, (.v (.int .i64 s1.1))), (7, (.v (.int .i64 s1.2.1)))], [some (.arr 9 .str s1.2.2)]⟩)) (step := (fun s : Int × Int × (List ByteArray) => spec_l1Split_loop1 _ _ s.1 s.2.1 s.2.2)) _ H (by kernel_rfl) (sub_auto ?_) ?_; rotate_left; (intro s1 r v hr H); rotate_right)
        | ((repeat (first | replace H := grd_k H | replace H := out_step H (by assumption))); refine again_step H (by assumption) (sub_auto ?_))
        | ((with_reducible refine fin_mk ?_); (repeat (first | replace H := grd_k H | replace H := out_step H (by assumption))); have H := Option.some.inj H; subst H))
    | constructor
def G41 : Env := G40.add 34 [] spec_l1Split.S
theorem G41_ok : EnvOk Tryz.prog G41 := G40_ok.add ent_34 fun ar h r h1 ⟨a0, a1, y, hy, e1, e2, e3, e4⟩ => by
  subst e3 e4; exact (spec_l1Split.spec a0 a1 y hy).le e1 e2
attribute [local irreducible] spec_l1Split

noncomputable def spec_l17Digits_loop1 (a0 : ByteArray) (v3 : Int) (v4 : Int) : Option (Lp (Int × Int) ((Int))) :=
  (cond (decide (v4 < (a0.size : Int))) (cond (decide (v4 < (9 : Int))) (grd (0 ≤ v4 ∧ v4 < (a0.size : Int)) (cond (decide ((48 : Int) ≤ (bAt a0 v4))) (grd (0 ≤ v4 ∧ v4 < (a0.size : Int)) (cond (decide ((bAt a0 v4) ≤ (57 : Int))) (grd (0 ≤ v4 ∧ v4 < (a0.size : Int)) (some (.go ((w64 ((w64 ((w64 ((10 : Int) * v3)) + (w64 (bAt a0 v4)))) - (48 : Int))), (w64 (v4 + (1 : Int))))))) (some (.go (v3, (w64 (v4 + (1 : Int)))))))) (some (.go (v3, (w64 (v4 + (1 : Int)))))))) ((some (.out v3)))) ((some (.out v3))))
noncomputable def spec_l17Digits (a0 : ByteArray) : Option (Int) :=
  ((iter (fun s => spec_l17Digits_loop1 a0 s.1 s.2) ((0 : Int), (0 : Int))).bind (fun r5 => (cond (decide ((0 : Int) < (a0.size : Int))) (grd (0 ≤ (0 : Int) ∧ (0 : Int) < (a0.size : Int)) (cond (decide ((bAt a0 (0 : Int)) = (45 : Int))) ((some (w64 (0 - r5)))) ((some r5)))) ((some r5)))))
def spec_l17Digits.res (_ : ByteArray) (y : Int) : AV := (.v (.int .i64 y))
def spec_l17Digits.out (_ : ByteArray) (_ : Int) : List (Option LB) := []
def spec_l17Digits.S (ar : List AV) (h : List (Option LB)) (r : AV) (h1 : List (Option LB)) : Prop := ∃ a0 y, spec_l17Digits a0 = some y ∧ leL ar [(.v (.string a0))] ∧ leH h [] ∧ r = spec_l17Digits.res a0 y ∧ h1 = spec_l17Digits.out a0 y
theorem spec_l17Digits.call {ar : List AV} {h : List (Option LB)} {a0 : ByteArray} {y : Int} (H : spec_l17Digits a0 = some y) (h0 : leLk ar [(.v (.string a0))] (leHk h [])) : spec_l17Digits.S ar h (spec_l17Digits.res a0 y) (spec_l17Digits.out a0 y) := ⟨a0, y, H, (args_ok h0).1, (args_ok h0).2, rfl, rfl⟩
set_option maxHeartbeats 100000000 in
set_option maxRecDepth 100000 in
theorem spec_l17Digits.spec (a0 : ByteArray) (y : Int) (H : spec_l17Digits a0 = some y) : Spec Tryz.prog 35 [(.v (.string a0))] [] (spec_l17Digits.res a0 y) (spec_l17Digits.out a0 y) := by
  refine spec_intro (G41_ok.at tok []) (ct := [(6, some [0, 3, 4, 10, 11, 20, 21, 22, 23, 24, 37, 38, 39]), (9, some [3])]) Tryz.func35 rfl (by kernel_rfl) (by kernel_rfl) rfl ?_
  repeat' first
    | ((with_reducible refine eqg ?_); exact rfl)
    | ((with_reducible refine KOb.mk ?_); kernel_rfl)
    | ((with_reducible intro h); (repeat (first | replace H := grd_k H | replace H := out_step H (by assumption))); first | replace H := cond_t h H | replace H := cond_f h H | exact absurd h (by decide) | skip)
    | ((with_reducible refine Ob.mk ?_); first | (with_reducible rfl) | (first | ((repeat (first | (with_reducible exact grd_p H) | (replace H := grd_k H) | (replace H := out_step H (by assumption)))); done) | rfl | ((repeat (first | exact grd_p H | replace H := grd_k H | replace H := out_step H (by assumption))); done) | ((repeat (first | exact grd_p H | (have hp := grd_p H; exact hp) | replace H := grd_k H | replace H := out_step H (by assumption) | (replace H := bind_some H; obtain ⟨_, _, H⟩ := H))); done) | (repeat (first | exact grd_p H | replace H := grd_k H | replace H := out_step H (by assumption)))))
    | (with_reducible exact True.intro)
    | ((conv => whnf); first
        | (with_reducible refine And.intro ?_ ?_)
        | (with_reducible exact True.intro)
        | ((with_reducible refine Ob.mk ?_); first | (with_reducible rfl) | (first | ((repeat (first | (with_reducible exact grd_p H) | (replace H := grd_k H) | (replace H := out_step H (by assumption)))); done) | rfl | ((repeat (first | exact grd_p H | replace H := grd_k H | replace H := out_step H (by assumption))); done) | ((repeat (first | exact grd_p H | (have hp := grd_p H; exact hp) | replace H := grd_k H | replace H := out_step H (by assumption) | (replace H := bind_some H; obtain ⟨_, _, H⟩ := H))); done) | (repeat (first | exact grd_p H | replace H := grd_k H | replace H := out_step H (by assumption)))))
        | ((repeat (first | replace H := grd_k H | replace H := out_step H (by assumption))); refine loop_iter (G41_ok.at tok []) (ct := [(6, some [0, 3, 4, 10, 11, 20, 21, 22, 23, 24, 37, 38, 39]), (9, some [3])]) (F := (fun s1 : Int × Int => ⟨sl [(0, (.v (.string a0))), (3, (.v (.int .i64 s1.1))), (4, (.v (.int .i64 s1.2)))], []⟩)) (step := (fun s : Int × Int => spec_l17Digits_loop1 _ s.1 s.2)) _ H (by kernel_rfl) (sub_auto ?_) ?_; rotate_left; (intro s1 r v hr H); rotate_right)
        | ((repeat (first | replace H := grd_k H | replace H := out_step H (by assumption))); refine again_step H (by assumption) (sub_auto ?_))
        | ((with_reducible refine fin_mk ?_); (repeat (first | replace H := grd_k H | replace H := out_step H (by assumption))); have H := Option.some.inj H; subst H))
    | constructor
def G42 : Env := G41.add 35 [] spec_l17Digits.S
theorem G42_ok : EnvOk Tryz.prog G42 := G41_ok.add ent_35 fun ar h r h1 ⟨a0, y, hy, e1, e2, e3, e4⟩ => by
  subst e3 e4; exact (spec_l17Digits.spec a0 y hy).le e1 e2
attribute [local irreducible] spec_l17Digits

end Go.Proofs.YtaajchikfgbecaaGreatDoor
