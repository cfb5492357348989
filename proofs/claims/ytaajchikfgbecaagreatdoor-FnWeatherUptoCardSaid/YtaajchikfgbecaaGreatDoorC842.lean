/-
  Contracts, printed by a program.
-/
import Derived.Test.YtaajchikfgbecaaGreatDoorC841
namespace Go.Proofs.YtaajchikfgbecaaGreatDoor
open Go.RowKit
attribute [local irreducible] Ob loopwp Sub Spec Fin Again CallW CutC KOb iter joinx outm

attribute [local irreducible] laws_rBig spec_l1Cur_next spec_l1Cur_pick spec_l1Cur_among spec_l1Cur_one spec_l1Cur_weather spec_DrawIsWeather

noncomputable def spec_DrawWeatherText (a0 : (List Int)) : Option (Weather) :=
  ((spec_DrawIsWeather a0).bind fun y1 => (some (y1.1, y1.2.1, y1.2.2.1, y1.2.2.2.1, y1.2.2.2.2.1, ())))
def spec_DrawWeatherText.res (_ : (List Int)) (y : Weather) : AV := (.agg [(.v (.int .i64 y.1)), (.v (.int .i64 y.2.1)), (.v (.int .i64 y.2.2.1)), (.v (.int .i64 y.2.2.2.1)), (.bl y.2.2.2.2.1)])
def spec_DrawWeatherText.out (_ : (List Int)) (_ : Weather) : List (Option LB) := []
def spec_DrawWeatherText.S (ar : List AV) (h : List (Option LB)) (r : AV) (h1 : List (Option LB)) : Prop := ∃ a0 y, spec_DrawWeatherText a0 = some y ∧ leL ar [(.tree (.int .u8) a0)] ∧ leH h [] ∧ r = spec_DrawWeatherText.res a0 y ∧ h1 = spec_DrawWeatherText.out a0 y
theorem spec_DrawWeatherText.call {ar : List AV} {h : List (Option LB)} {a0 : (List Int)} {y : Weather} (H : spec_DrawWeatherText a0 = some y) (h0 : leLk ar [(.tree (.int .u8) a0)] (leHk h [])) : spec_DrawWeatherText.S ar h (spec_DrawWeatherText.res a0 y) (spec_DrawWeatherText.out a0 y) := ⟨a0, y, H, (args_ok h0).1, (args_ok h0).2, rfl, rfl⟩
set_option maxHeartbeats 100000000 in
set_option maxRecDepth 100000 in
theorem spec_DrawWeatherText.spec (a0 : (List Int)) (y : Weather) (H : spec_DrawWeatherText a0 = some y) : Spec Tryz.prog 5 [(.tree (.int .u8) a0)] [] (spec_DrawWeatherText.res a0 y) (spec_DrawWeatherText.out a0 y) := by
  refine spec_intro (G7_ok.at tok []) (ct := []) Tryz.func5 rfl (by kernel_rfl) (by kernel_rfl) rfl ?_
  repeat' first
    | ((with_reducible refine eqg ?_); exact rfl)
    | ((with_reducible refine KOb.mk ?_); kernel_rfl)
    | ((with_reducible intro h); (repeat (first | replace H := grd_k H | replace H := out_step H (by assumption))); first | replace H := cond_t h H | replace H := cond_f h H | exact absurd h (by decide) | skip)
    | ((with_reducible refine Ob.mk ?_); first | (with_reducible rfl) | (first | ((repeat (first | (with_reducible exact grd_p H) | (replace H := grd_k H) | (replace H := out_step H (by assumption)))); done) | rfl | ((repeat (first | exact grd_p H | replace H := grd_k H | replace H := out_step H (by assumption))); done) | ((repeat (first | exact grd_p H | (have hp := grd_p H; exact hp) | replace H := grd_k H | replace H := out_step H (by assumption) | (replace H := bind_some H; obtain ⟨_, _, H⟩ := H))); done) | (repeat (first | exact grd_p H | replace H := grd_k H | replace H := out_step H (by assumption)))))
    | (with_reducible exact True.intro)
    | ((conv => whnf); first
        | (with_reducible refine And.intro ?_ ?_)
        | (with_reducible exact True.intro)
        | ((with_reducible refine Ob.mk ?_); first | (with_reducible rfl) | (first | ((repeat (first | (with_reducible exact grd_p H) | (replace H := grd_k H) | (replace H := out_step H (by assumption)))); done) | rfl | ((repeat (first | exact grd_p H | replace H := grd_k H | replace H := out_step H (by assumption))); done) | ((repeat (first | exact grd_p H | (have hp := grd_p H; exact hp) | replace H := grd_k H | replace H := out_step H (by assumption) | (replace H := bind_some H; obtain ⟨_, _, H⟩ := H))); done) | (repeat (first | exact grd_p H | replace H := grd_k H | replace H := out_step H (by assumption)))))
        | ((with_reducible refine CallW.mk ?_); (repeat (first | replace H := grd_k H | replace H := out_step H (by assumption))); replace H := bind_some H; obtain ⟨y, hy, H⟩ := H; first | ((with_reducible have hz : spec_DrawIsWeather _ = some y := hy); clear hz; refine Exists.intro _ (Exists.intro _ ⟨spec_DrawIsWeather.call hy ?_, rfl, rfl, ?_⟩)))
        | ((with_reducible refine fin_mk ?_); (repeat (first | replace H := grd_k H | replace H := out_step H (by assumption))); have H := Option.some.inj H; subst H))
    | constructor
def G8 : Env := G7.add 5 [] spec_DrawWeatherText.S
theorem G8_ok : EnvOk Tryz.prog G8 := G7_ok.add ent_5 fun ar h r h1 ⟨a0, y, hy, e1, e2, e3, e4⟩ => by
  subst e3 e4; exact (spec_DrawWeatherText.spec a0 y hy).le e1 e2
attribute [local irreducible] spec_DrawWeatherText

noncomputable def impl_within (a0 : Int) (a1 : Int) (a2 : Int) : Option (Bool) :=
  (cond (decide (a1 ≤ a0)) ((some (decide (a0 ≤ a2)))) ((some false)))
def impl_within.res (_ : Int) (_ : Int) (_ : Int) (y : Bool) : AV := (.bl y)
def impl_within.out (_ : Int) (_ : Int) (_ : Int) (_ : Bool) : List (Option LB) := []
def impl_within.S (ar : List AV) (h : List (Option LB)) (r : AV) (h1 : List (Option LB)) : Prop := ∃ a0 a1 a2 y, impl_within a0 a1 a2 = some y ∧ leL ar [(.v (.int .i64 a0)), (.v (.int .i64 a1)), (.v (.int .i64 a2))] ∧ leH h [] ∧ r = impl_within.res a0 a1 a2 y ∧ h1 = impl_within.out a0 a1 a2 y
theorem impl_within.call {ar : List AV} {h : List (Option LB)} {a0 : Int} {a1 : Int} {a2 : Int} {y : Bool} (H : impl_within a0 a1 a2 = some y) (h0 : leLk ar [(.v (.int .i64 a0)), (.v (.int .i64 a1)), (.v (.int .i64 a2))] (leHk h [])) : impl_within.S ar h (impl_within.res a0 a1 a2 y) (impl_within.out a0 a1 a2 y) := ⟨a0, a1, a2, y, H, (args_ok h0).1, (args_ok h0).2, rfl, rfl⟩
set_option maxHeartbeats 100000000 in
set_option maxRecDepth 100000 in
theorem impl_within.spec (a0 : Int) (a1 : Int) (a2 : Int) (y : Bool) (H : impl_within a0 a1 a2 = some y) : Spec Tryz.prog 24 [(.v (.int .i64 a0)), (.v (.int .i64 a1)), (.v (.int .i64 a2))] [] (impl_within.res a0 a1 a2 y) (impl_within.out a0 a1 a2 y) := by
  refine spec_intro (G8_ok.at tok []) (ct := []) Tryz.func24 rfl (by kernel_rfl) (by kernel_rfl) rfl ?_
  repeat' first
    | ((with_reducible refine eqg ?_); exact rfl)
    | ((with_reducible refine KOb.mk ?_); kernel_rfl)
    | ((with_reducible intro h); (repeat (first | replace H := grd_k H | replace H := out_step H (by assumption))); first | replace H := cond_t h H | replace H := cond_f h H | exact absurd h (by decide) | skip)
    | ((with_reducible refine Ob.mk ?_); first | (with_reducible rfl) | (first | ((repeat (first | (with_reducible exact grd_p H) | (replace H := grd_k H) | (replace H := out_step H (by assumption)))); done) | rfl | ((repeat (first | exact grd_p H | replace H := grd_k H | replace H := out_step H (by assumption))); done) | ((repeat (first | exact grd_p H | (have hp := grd_p H; exact hp) | replace H := grd_k H | replace H := out_step H (by assumption) | (replace H := bind_some H; obtain ⟨_, _, H⟩ := H))); done) | (repeat (first | exact grd_p H | replace H := grd_k H | replace H := out_step H (by assumption)))))
    | (with_reducible exact True.intro)
    | ((conv => whnf); first
        | (with_reducible refine And.intro ?_ ?_)
        | (with_reducible exact True.intro)
        | ((with_reducible refine Ob.mk ?_); first | (with_reducible rfl) | (first | ((repeat (first | (with_reducible exact grd_p H) | (replace H := grd_k H) | (replace H := out_step H (by assumption)))); done) | rfl | ((repeat (first | exact grd_p H | replace H := grd_k H | replace H := out_step H (by assumption))); done) | ((repeat (first | exact grd_p H | (have hp := grd_p H; exact hp) | replace H := grd_k H | replace H := out_step H (by assumption) | (replace H := bind_some H; obtain ⟨_, _, H⟩ := H))); done) | (repeat (first | exact grd_p H | replace H := grd_k H | replace H := out_step H (by assumption)))))
        | ((with_reducible refine fin_mk ?_); (repeat (first | replace H := grd_k H | replace H := out_step H (by assumption))); have H := Option.some.inj H; subst H))
    | constructor
def G9 : Env := G8.add 24 [] impl_within.S
theorem G9_ok : EnvOk Tryz.prog G9 := G8_ok.add ent_24 fun ar h r h1 ⟨a0, a1, a2, y, hy, e1, e2, e3, e4⟩ => by
  subst e3 e4; exact (impl_within.spec a0 a1 a2 y hy).le e1 e2
attribute [local irreducible] impl_within

noncomputable def impl_IsWeather (a0 : Weather) : Option (Bool) :=
  ((impl_within a0.1 (0 : Int) (9999 : Int)).bind fun y1 => (cond y1 ((impl_within a0.2.1 (0 : Int) (600 : Int)).bind fun y2 => (cond y2 ((impl_within a0.2.2.1 (0 : Int) (359 : Int)).bind fun y3 => (cond y3 ((impl_within a0.2.2.2.1 ((-400) : Int) (500 : Int)).bind fun y4 => (some y4)) ((some false)))) ((some false)))) ((some false))))
def impl_IsWeather.res (_ : Weather) (y : Bool) : AV := (.bl y)
def impl_IsWeather.out (_ : Weather) (_ : Bool) : List (Option LB) := []
def impl_IsWeather.S (ar : List AV) (h : List (Option LB)) (r : AV) (h1 : List (Option LB)) : Prop := ∃ a0 y, impl_IsWeather a0 = some y ∧ leL ar [(.agg [(.v (.int .i64 a0.1)), (.v (.int .i64 a0.2.1)), (.v (.int .i64 a0.2.2.1)), (.v (.int .i64 a0.2.2.2.1)), (.bl a0.2.2.2.2.1)])] ∧ leH h [] ∧ r = impl_IsWeather.res a0 y ∧ h1 = impl_IsWeather.out a0 y
theorem impl_IsWeather.call {ar : List AV} {h : List (Option LB)} {a0 : Weather} {y : Bool} (H : impl_IsWeather a0 = some y) (h0 : leLk ar [(.agg [(.v (.int .i64 a0.1)), (.v (.int .i64 a0.2.1)), (.v (.int .i64 a0.2.2.1)), (.v (.int .i64 a0.2.2.2.1)), (.bl a0.2.2.2.2.1)])] (leHk h [])) : impl_IsWeather.S ar h (impl_IsWeather.res a0 y) (impl_IsWeather.out a0 y) := ⟨a0, y, H, (args_ok h0).1, (args_ok h0).2, rfl, rfl⟩
set_option maxHeartbeats 100000000 in
set_option maxRecDepth 100000 in
theorem impl_IsWeather.spec (a0 : Weather) (y : Bool) (H : impl_IsWeather a0 = some y) : Spec Tryz.prog 8 [(.agg [(.v (.int .i64 a0.1)), (.v (.int .i64 a0.2.1)), (.v (.int .i64 a0.2.2.1)), (.v (.int .i64 a0.2.2.2.1)), (.bl a0.2.2.2.2.1)])] [] (impl_IsWeather.res a0 y) (impl_IsWeather.out a0 y) := by
  refine spec_intro (G9_ok.at tok []) (ct := []) Tryz.func8 rfl (by kernel_rfl) (by kernel_rfl) rfl ?_
  repeat' first
    | ((with_reducible refine eqg ?_); exact rfl)
    | ((with_reducible refine KOb.mk ?_); kernel_rfl)
    | ((with_reducible intro h); (repeat (first | replace H := grd_k H | replace H := out_step H (by assumption))); first | replace H := cond_t h H | replace H := cond_f h H | exact absurd h (by decide) | skip)
    | ((with_reducible refine Ob.mk ?_); first | (with_reducible rfl) | (first | ((repeat (first | (with_reducible exact grd_p H) | (replace H := grd_k H) | (replace H := out_step H (by assumption)))); done) | rfl | ((repeat (first | exact grd_p H | replace H := grd_k H | replace H := out_step H (by assumption))); done) | ((repeat (first | exact grd_p H | (have hp := grd_p H; exact hp) | replace H := grd_k H | replace H := out_step H (by assumption) | (replace H := bind_some H; obtain ⟨_, _, H⟩ := H))); done) | (repeat (first | exact grd_p H | replace H := grd_k H | replace H := out_step H (by assumption)))))
    | (with_reducible exact True.intro)
    | ((conv => whnf); first
        | (with_reducible refine And.intro ?_ ?_)
        | (with_reducible exact True.intro)
        | ((with_reducible refine Ob.mk ?_); first | (with_reducible rfl) | (first | ((repeat (first | (with_reducible exact grd_p H) | (replace H := grd_k H) | (replace H := out_step H (by assumption)))); done) | rfl | ((repeat (first | exact grd_p H | replace H := grd_k H | replace H := out_step H (by assumption))); done) | ((repeat (first | exact grd_p H | (have hp := grd_p H; exact hp) | replace H := grd_k H | replace H := out_step H (by assumption) | (replace H := bind_some H; obtain ⟨_, _, H⟩ := H))); done) | (repeat (first | exact grd_p H | replace H := grd_k H | replace H := out_step H (by assumption)))))
        | ((with_reducible refine CallW.mk ?_); (repeat (first | replace H := grd_k H | replace H := out_step H (by assumption))); replace H := bind_some H; obtain ⟨y, hy, H⟩ := H; first | ((with_reducible have hz : impl_within _ _ _ = some y := hy); clear hz; refine Exists.intro _ (Exists.intro _ ⟨impl_within.call hy ?_, rfl, rfl, ?_⟩)))
        | ((with_reducible refine fin_mk ?_); (repeat (first | replace H := grd_k H | replace H := out_step H (by assumption))); have H := Option.some.inj H; subst H))
    | constructor
def G10 : Env := G9.add 8 [] impl_IsWeather.S
theorem G10_ok : EnvOk Tryz.prog G10 := G9_ok.add ent_8 fun ar h r h1 ⟨a0, y, hy, e1, e2, e3, e4⟩ => by
  subst e3 e4; exact (impl_IsWeather.spec a0 y hy).le e1 e2
attribute [local irreducible] impl_IsWeather

noncomputable def strconv_Itoa (a0 : Int) : Option (ByteArray) :=
  (grd (-9223372036854775808 ≤ a0 ∧ a0 ≤ 9223372036854775807) ((some (itoaB a0))))
def strconv_Itoa.res (_ : Int) (y : ByteArray) : AV := (.v (.string y))
def strconv_Itoa.out (_ : Int) (_ : ByteArray) : List (Option LB) := []
def strconv_Itoa.S (ar : List AV) (h : List (Option LB)) (r : AV) (h1 : List (Option LB)) : Prop := ∃ a0 y, strconv_Itoa a0 = some y ∧ leL ar [(.v (.int .i64 a0))] ∧ leH h [] ∧ r = strconv_Itoa.res a0 y ∧ h1 = strconv_Itoa.out a0 y
theorem strconv_Itoa.call {ar : List AV} {h : List (Option LB)} {a0 : Int} {y : ByteArray} (H : strconv_Itoa a0 = some y) (h0 : leLk ar [(.v (.int .i64 a0))] (leHk h [])) : strconv_Itoa.S ar h (strconv_Itoa.res a0 y) (strconv_Itoa.out a0 y) := ⟨a0, y, H, (args_ok h0).1, (args_ok h0).2, rfl, rfl⟩
theorem strconv_Itoa.spec (a0 : Int) (y : ByteArray) (H : strconv_Itoa a0 = some y) : Spec Tryz.prog 46 [(.v (.int .i64 a0))] [] (strconv_Itoa.res a0 y) (strconv_Itoa.out a0 y) := by
  have hg := grd_p H
  have H := Option.some.inj (grd_k H)
  subst H
  exact ext_strconv_Itoa a0 hg
def G11 : Env := G10.add 46 [] strconv_Itoa.S
theorem G11_ok : EnvOk Tryz.prog G11 := G10_ok.add ent_46 fun ar h r h1 ⟨a0, y, hy, e1, e2, e3, e4⟩ => by
  subst e3 e4; exact (strconv_Itoa.spec a0 y hy).le e1 e2
attribute [local irreducible] strconv_Itoa

noncomputable def impl_distance (a0 : Int) (a1 : Int) : Option (Int) :=
  (some (if false = true then (if (w64 (a1 - a0)) < (w64 (a0 - a1)) then (w64 (a1 - a0)) else (w64 (a0 - a1))) else (if (w64 (a1 - a0)) > (w64 (a0 - a1)) then (w64 (a1 - a0)) else (w64 (a0 - a1)))))
def impl_distance.res (_ : Int) (_ : Int) (y : Int) : AV := (.v (.int .i64 y))
def impl_distance.out (_ : Int) (_ : Int) (_ : Int) : List (Option LB) := []
def impl_distance.S (ar : List AV) (h : List (Option LB)) (r : AV) (h1 : List (Option LB)) : Prop := ∃ a0 a1 y, impl_distance a0 a1 = some y ∧ leL ar [(.v (.int .i64 a0)), (.v (.int .i64 a1))] ∧ leH h [] ∧ r = impl_distance.res a0 a1 y ∧ h1 = impl_distance.out a0 a1 y
theorem impl_distance.call {ar : List AV} {h : List (Option LB)} {a0 : Int} {a1 : Int} {y : Int} (H : impl_distance a0 a1 = some y) (h0 : leLk ar [(.v (.int .i64 a0)), (.v (.int .i64 a1))] (leHk h [])) : impl_distance.S ar h (impl_distance.res a0 a1 y) (impl_distance.out a0 a1 y) := ⟨a0, a1, y, H, (args_ok h0).1, (args_ok h0).2, rfl, rfl⟩
set_option maxHeartbeats 100000000 in
set_option maxRecDepth 100000 in
theorem impl_distance.spec (a0 : Int) (a1 : Int) (y : Int) (H : impl_distance a0 a1 = some y) : Spec Tryz.prog 37 [(.v (.int .i64 a0)), (.v (.int .i64 a1))] [] (impl_distance.res a0 a1 y) (impl_distance.out a0 a1 y) := by
  refine spec_intro (G11_ok.at tok []) (ct := []) Tryz.func37 rfl (by kernel_rfl) (by kernel_rfl) rfl ?_
  repeat' first
    | ((with_reducible refine eqg ?_); exact rfl)
    | ((with_reducible refine KOb.mk ?_); kernel_rfl)
    | ((with_reducible intro h); (repeat (first | replace H := grd_k H | replace H := out_step H (by assumption))); first | replace H := cond_t h H | replace H := cond_f h H | exact absurd h (by decide) | skip)
    | ((with_reducible refine Ob.mk ?_); first | (with_reducible rfl) | (first | ((repeat (first | (with_reducible exact grd_p H) | (replace H := grd_k H) | (replace H := out_step H (by assumption)))); done) | rfl | ((repeat (first | exact grd_p H | replace H := grd_k H | replace H := out_step H (by assumption))); done) | ((repeat (first | exact grd_p H | (have hp := grd_p H; exact hp) | replace H := grd_k H | replace H := out_step H (by assumption) | (replace H := bind_some H; obtain ⟨_, _, H⟩ := H))); done) | (repeat (first | exact grd_p H | replace H := grd_k H | replace H := out_step H (by assumption)))))
    | (with_reducible exact True.intro)
    | ((conv => whnf); first
        | (with_reducible refine And.intro ?_ ?_)
        | (with_reducible exact True.intro)
        | ((with_reducible refine Ob.mk ?_); first | (with_reducible rfl) | (first | ((repeat (first | (with_reducible exact grd_p H) | (replace H := grd_k H) | (replace H := out_step H (by assumption)))); done) | rfl | ((repeat (first | exact grd_p H | replace H := grd_k H | replace H := out_step H (by assumption))); done) | ((repeat (first | exact grd_p H | (have hp := grd_p H; exact hp) | replace H := grd_k H | replace H := out_step H (by assumption) | (replace H := bind_some H; obtain ⟨_, _, H⟩ := H))); done) | (repeat (first | exact grd_p H | replace H := grd_k H | replace H := out_step H (by assumption)))))
        | ((with_reducible refine fin_mk ?_); (repeat (first | replace H := grd_k H | replace H := out_step H (by assumption))); have H := Option.some.inj H; subst H))
    | constructor
def G12 : Env := G11.add 37 [] impl_distance.S
theorem G12_ok : EnvOk Tryz.prog G12 := G11_ok.add ent_37 fun ar h r h1 ⟨a0, a1, y, hy, e1, e2, e3, e4⟩ => by
  subst e3 e4; exact (impl_distance.spec a0 a1 y hy).le e1 e2
attribute [local irreducible] impl_distance

noncomputable def impl_tenths (a0 : Int) : Option (ByteArray) :=
  ((impl_distance a0 (0 : Int)).bind fun y1 => (grd ((10 : Int) ≠ 0) ((strconv_Itoa (w64 (Int.tdiv y1 (10 : Int)))).bind fun y2 => (grd (y2.size + (ByteArray.mk #[46]).size ≤ 9223372036854775807) (grd ((10 : Int) ≠ 0) ((strconv_Itoa (Int.tmod y1 (10 : Int))).bind fun y3 => (grd ((y2 ++ (ByteArray.mk #[46])).size + y3.size ≤ 9223372036854775807) (cond (decide (a0 < (0 : Int))) (grd ((ByteArray.mk #[45]).size + ((y2 ++ (ByteArray.mk #[46])) ++ y3).size ≤ 9223372036854775807) ((some ((ByteArray.mk #[45]) ++ ((y2 ++ (ByteArray.mk #[46])) ++ y3))))) ((some ((y2 ++ (ByteArray.mk #[46])) ++ y3)))))))))))
def impl_tenths.res (_ : Int) (y : ByteArray) : AV := (.v (.string y))
def impl_tenths.out (_ : Int) (_ : ByteArray) : List (Option LB) := []
def impl_tenths.S (ar : List AV) (h : List (Option LB)) (r : AV) (h1 : List (Option LB)) : Prop := ∃ a0 y, impl_tenths a0 = some y ∧ leL ar [(.v (.int .i64 a0))] ∧ leH h [] ∧ r = impl_tenths.res a0 y ∧ h1 = impl_tenths.out a0 y
theorem impl_tenths.call {ar : List AV} {h : List (Option LB)} {a0 : Int} {y : ByteArray} (H : impl_tenths a0 = some y) (h0 : leLk ar [(.v (.int .i64 a0))] (leHk h [])) : impl_tenths.S ar h (impl_tenths.res a0 y) (impl_tenths.out a0 y) := ⟨a0, y, H, (args_ok h0).1, (args_ok h0).2, rfl, rfl⟩
set_option maxHeartbeats 100000000 in
set_option maxRecDepth 100000 in
theorem impl_tenths.spec (a0 : Int) (y : ByteArray) (H : impl_tenths a0 = some y) : Spec Tryz.prog 47 [(.v (.int .i64 a0))] [] (impl_tenths.res a0 y) (impl_tenths.out a0 y) := by
  refine spec_intro (G12_ok.at tok []) (ct := [(4, some [4, 16])]) Tryz.func47 rfl (by kernel_rfl) (by kernel_rfl) rfl ?_
  repeat' first
    | ((with_reducible refine eqg ?_); exact rfl)
    | ((with_reducible refine KOb.mk ?_); kernel_rfl)
    | ((with_reducible intro h); (repeat (first | replace H := grd_k H | replace H := out_step H (by assumption))); first | replace H := cond_t h H | replace H := cond_f h H | exact absurd h (by decide) | skip)
    | ((with_reducible refine Ob.mk ?_); first | (with_reducible rfl) | (first | ((repeat (first | (with_reducible exact grd_p H) | (replace H := grd_k H) | (replace H := out_step H (by assumption)))); done) | rfl | ((repeat (first | exact grd_p H | replace H := grd_k H | replace H := out_step H (by assumption))); done) | ((repeat (first | exact grd_p H | (have hp := grd_p H; exact hp) | replace H := grd_k H | replace H := out_step H (by assumption) | (replace H := bind_some H; obtain ⟨_, _, H⟩ := H))); done) | (repeat (first | exact grd_p H | replace H := grd_k H | replace H := out_step H (by assumption)))))
    | (with_reducible exact True.intro)
    | ((conv => whnf); first
        | (with_reducible refine And.intro ?_ ?_)
        | (with_reducible exact True.intro)
        | ((with_reducible refine Ob.mk ?_); first | (with_reducible rfl) | (first | ((repeat (first | (with_reducible exact grd_p H) | (replace H := grd_k H) | (replace H := out_step H (by assumption)))); done) | rfl | ((repeat (first | exact grd_p H | replace H := grd_k H | replace H := out_step H (by assumption))); done) | ((repeat (first | exact grd_p H | (have hp := grd_p H; exact hp) | replace H := grd_k H | replace H := out_step H (by assumption) | (replace H := bind_some H; obtain ⟨_, _, H⟩ := H))); done) | (repeat (first | exact grd_p H | replace H := grd_k H | replace H := out_step H (by assumption)))))
        | ((with_reducible refine CallW.mk ?_); (repeat (first | replace H := grd_k H | replace H := out_step H (by assumption))); replace H := bind_some H; obtain ⟨y, hy, H⟩ := H; first | ((with_reducible have hz : impl_distance _ _ = some y := hy); clear hz; refine Exists.intro _ (Exists.intro _ ⟨impl_distance.call hy ?_, rfl, rfl, ?_⟩)) | ((with_reducible have hz : strconv_Itoa _ = some y := hy); clear hz; refine Exists.intro _ (Exists.intro _ ⟨strconv_Itoa.call hy ?_, rfl, rfl, ?_⟩)))
        | ((with_reducible refine fin_mk ?_); (repeat (first | replace H := grd_k H | replace H := out_step H (by assumption))); have H := Option.some.inj H; subst H))
    | constructor
def G13 : Env := G12.add 47 [] impl_tenths.S
theorem G13_ok : EnvOk Tryz.prog G13 := G12_ok.add ent_47 fun ar h r h1 ⟨a0, y, hy, e1, e2, e3, e4⟩ => by
  subst e3 e4; exact (impl_tenths.spec a0 y hy).le e1 e2
attribute [local irreducible] impl_tenths

noncomputable def impl_weatherText (a0 : Weather) : Option (ByteArray) :=
  ((strconv_Itoa a0.1).bind fun y1 => (grd (y1.size + (ByteArray.mk #[58, 32]).size ≤ 9223372036854775807) ((impl_tenths a0.2.1).bind fun y2 => (grd ((y1 ++ (ByteArray.mk #[58, 32])).size + y2.size ≤ 9223372036854775807) (grd (((y1 ++ (ByteArray.mk #[58, 32])) ++ y2).size + (ByteArray.mk #[32, 109, 47, 115, 32, 102, 114, 111, 109, 32]).size ≤ 9223372036854775807) ((strconv_Itoa a0.2.2.1).bind fun y3 => (grd ((((y1 ++ (ByteArray.mk #[58, 32])) ++ y2) ++ (ByteArray.mk #[32, 109, 47, 115, 32, 102, 114, 111, 109, 32])).size + y3.size ≤ 9223372036854775807) (grd (((((y1 ++ (ByteArray.mk #[58, 32])) ++ y2) ++ (ByteArray.mk #[32, 109, 47, 115, 32, 102, 114, 111, 109, 32])) ++ y3).size + (ByteArray.mk #[44, 32]).size ≤ 9223372036854775807) ((impl_tenths a0.2.2.2.1).bind fun y4 => (grd ((((((y1 ++ (ByteArray.mk #[58, 32])) ++ y2) ++ (ByteArray.mk #[32, 109, 47, 115, 32, 102, 114, 111, 109, 32])) ++ y3) ++ (ByteArray.mk #[44, 32])).size + y4.size ≤ 9223372036854775807) (grd (((((((y1 ++ (ByteArray.mk #[58, 32])) ++ y2) ++ (ByteArray.mk #[32, 109, 47, 115, 32, 102, 114, 111, 109, 32])) ++ y3) ++ (ByteArray.mk #[44, 32])) ++ y4).size + (ByteArray.mk #[32, 67]).size ≤ 9223372036854775807) (cond a0.2.2.2.2.1 (grd ((((((((y1 ++ (ByteArray.mk #[58, 32])) ++ y2) ++ (ByteArray.mk #[32, 109, 47, 115, 32, 102, 114, 111, 109, 32])) ++ y3) ++ (ByteArray.mk #[44, 32])) ++ y4) ++ (ByteArray.mk #[32, 67])).size + (ByteArray.mk #[44, 32, 115, 116, 111, 114, 109]).size ≤ 9223372036854775807) ((some ((((((((y1 ++ (ByteArray.mk #[58, 32])) ++ y2) ++ (ByteArray.mk #[32, 109, 47, 115, 32, 102, 114, 111, 109, 32])) ++ y3) ++ (ByteArray.mk #[44, 32])) ++ y4) ++ (ByteArray.mk #[32, 67])) ++ (ByteArray.mk #[44, 32, 115, 116, 111, 114, 109]))))) ((some (((((((y1 ++ (ByteArray.mk #[58, 32])) ++ y2) ++ (ByteArray.mk #[32, 109, 47, 115, 32, 102, 114, 111, 109, 32])) ++ y3) ++ (ByteArray.mk #[44, 32])) ++ y4) ++ (ByteArray.mk #[32, 67]))))))))))))))))
def impl_weatherText.res (_ : Weather) (y : ByteArray) : AV := (.v (.string y))
def impl_weatherText.out (_ : Weather) (_ : ByteArray) : List (Option LB) := []
def impl_weatherText.S (ar : List AV) (h : List (Option LB)) (r : AV) (h1 : List (Option LB)) : Prop := ∃ a0 y, impl_weatherText a0 = some y ∧ leL ar [(.agg [(.v (.int .i64 a0.1)), (.v (.int .i64 a0.2.1)), (.v (.int .i64 a0.2.2.1)), (.v (.int .i64 a0.2.2.2.1)), (.bl a0.2.2.2.2.1)])] ∧ leH h [] ∧ r = impl_weatherText.res a0 y ∧ h1 = impl_weatherText.out a0 y
theorem impl_weatherText.call {ar : List AV} {h : List (Option LB)} {a0 : Weather} {y : ByteArray} (H : impl_weatherText a0 = some y) (h0 : leLk ar [(.agg [(.v (.int .i64 a0.1)), (.v (.int .i64 a0.2.1)), (.v (.int .i64 a0.2.2.1)), (.v (.int .i64 a0.2.2.2.1)), (.bl a0.2.2.2.2.1)])] (leHk h [])) : impl_weatherText.S ar h (impl_weatherText.res a0 y) (impl_weatherText.out a0 y) := ⟨a0, y, H, (args_ok h0).1, (args_ok h0).2, rfl, rfl⟩
set_option maxHeartbeats 100000000 in
set_option maxRecDepth 100000 in
theorem impl_weatherText.spec (a0 : Weather) (y : ByteArray) (H : impl_weatherText a0 = some y) : Spec Tryz.prog 21 [(.agg [(.v (.int .i64 a0.1)), (.v (.int .i64 a0.2.1)), (.v (.int .i64 a0.2.2.1)), (.v (.int .i64 a0.2.2.2.1)), (.bl a0.2.2.2.2.1)])] [] (impl_weatherText.res a0 y) (impl_weatherText.out a0 y) := by
  refine spec_intro (G13_ok.at tok []) (ct := [(2, some [1, 3])]) Tryz.func21 rfl (by kernel_rfl) (by kernel_rfl) rfl ?_
  repeat' first
    | ((with_reducible refine eqg ?_); exact rfl)
    | ((with_reducible refine KOb.mk ?_); kernel_rfl)
    | ((with_reducible intro h); (repeat (first | replace H := grd_k H | replace H := out_step H (by assumption))); first | replace H := cond_t h H | replace H := cond_f h H | exact absurd h (by decide) | skip)
    | ((with_reducible refine Ob.mk ?_); first | (with_reducible rfl) | (first | ((repeat (first | (with_reducible exact grd_p H) | (replace H := grd_k H) | (replace H := out_step H (by assumption)))); done) | rfl | ((repeat (first | exact grd_p H | replace H := grd_k H | replace H := out_step H (by assumption))); done) | ((repeat (first | exact grd_p H | (have hp := grd_p H; exact hp) | replace H := grd_k H | replace H := out_step H (by assumption) | (replace H := bind_some H; obtain ⟨_, _, H⟩ := H))); done) | (repeat (first | exact grd_p H | replace H := grd_k H | replace H := out_step H (by assumption)))))
    | (with_reducible exact True.intro)
    | ((conv => whnf); first
        | (with_reducible refine And.intro ?_ ?_)
        | (with_reducible exact True.intro)
        | ((with_reducible refine Ob.mk ?_); first | (with_reducible rfl) | (first | ((repeat (first | (with_reducible exact grd_p H) | (replace H := grd_k H) | (replace H := out_step H (by assumption)))); done) | rfl | ((repeat (first | exact grd_p H | replace H := grd_k H | replace H := out_step H (by assumption))); done) | ((repeat (first | exact grd_p H | (have hp := grd_p H; exact hp) | replace H := grd_k H | replace H := out_step H (by assumption) | (replace H := bind_some H; obtain ⟨_, _, H⟩ := H))); done) | (repeat (first | exact grd_p H | replace H := grd_k H | replace H := out_step H (by assumption)))))
        | ((with_reducible refine CallW.mk ?_); (repeat (first | replace H := grd_k H | replace H := out_step H (by assumption))); replace H := bind_some H; obtain ⟨y, hy, H⟩ := H; first | ((with_reducible have hz : strconv_Itoa _ = some y := hy); clear hz; refine Exists.intro _ (Exists.intro _ ⟨strconv_Itoa.call hy ?_, rfl, rfl, ?_⟩)) | ((with_reducible have hz : impl_tenths _ = some y := hy); clear hz; refine Exists.intro _ (Exists.intro _ ⟨impl_tenths.call hy ?_, rfl, rfl, ?_⟩)))
        | ((with_reducible refine fin_mk ?_); (repeat (first | replace H := grd_k H | replace H := out_step H (by assumption))); have H := Option.some.inj H; subst H))
    | constructor
def G14 : Env := G13.add 21 [] impl_weatherText.S
theorem G14_ok : EnvOk Tryz.prog G14 := G13_ok.add ent_21 fun ar h r h1 ⟨a0, y, hy, e1, e2, e3, e4⟩ => by
  subst e3 e4; exact (impl_weatherText.spec a0 y hy).le e1 e2
attribute [local irreducible] impl_weatherText

end Go.Proofs.YtaajchikfgbecaaGreatDoor
