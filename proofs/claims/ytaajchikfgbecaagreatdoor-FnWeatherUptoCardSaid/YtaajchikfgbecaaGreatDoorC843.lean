/-
  Contracts, printed by a program.
-/
import Derived.Test.YtaajchikfgbecaaGreatDoorC842
namespace Go.Proofs.YtaajchikfgbecaaGreatDoor
open Go.RowKit
attribute [local irreducible] Ob loopwp Sub Spec Fin Again CallW CutC KOb iter joinx outm

attribute [local irreducible] laws_rBig spec_l1Cur_next spec_l1Cur_pick spec_l1Cur_among spec_l1Cur_one spec_l1Cur_weather spec_DrawIsWeather spec_DrawWeatherText impl_within impl_IsWeather strconv_Itoa impl_distance impl_tenths impl_weatherText

noncomputable def impl_WeatherText (a0 : Weather) : Option (ByteArray × Bool) :=
  ((impl_IsWeather (a0.1, a0.2.1, a0.2.2.1, a0.2.2.2.1, a0.2.2.2.2.1, ())).bind fun y1 => (cond (!y1) ((some ((ByteArray.mk #[]), false))) ((impl_weatherText (a0.1, a0.2.1, a0.2.2.1, a0.2.2.2.1, a0.2.2.2.2.1, ())).bind fun y2 => (some (y2, true)))))
def impl_WeatherText.res (_ : Weather) (y : ByteArray × Bool) : AV := (.tup [(.v (.string y.1)), (.bl y.2)])
def impl_WeatherText.out (_ : Weather) (_ : ByteArray × Bool) : List (Option LB) := []
def impl_WeatherText.S (ar : List AV) (h : List (Option LB)) (r : AV) (h1 : List (Option LB)) : Prop := ∃ a0 y, impl_WeatherText a0 = some y ∧ leL ar [(.agg [(.v (.int .i64 a0.1)), (.v (.int .i64 a0.2.1)), (.v (.int .i64 a0.2.2.1)), (.v (.int .i64 a0.2.2.2.1)), (.bl a0.2.2.2.2.1)])] ∧ leH h [] ∧ r = impl_WeatherText.res a0 y ∧ h1 = impl_WeatherText.out a0 y
theorem impl_WeatherText.call {ar : List AV} {h : List (Option LB)} {a0 : Weather} {y : ByteArray × Bool} (H : impl_WeatherText a0 = some y) (h0 : leLk ar [(.agg [(.v (.int .i64 a0.1)), (.v (.int .i64 a0.2.1)), (.v (.int .i64 a0.2.2.1)), (.v (.int .i64 a0.2.2.2.1)), (.bl a0.2.2.2.2.1)])] (leHk h [])) : impl_WeatherText.S ar h (impl_WeatherText.res a0 y) (impl_WeatherText.out a0 y) := ⟨a0, y, H, (args_ok h0).1, (args_ok h0).2, rfl, rfl⟩
set_option maxHeartbeats 100000000 in
set_option maxRecDepth 100000 in
theorem impl_WeatherText.spec (a0 : Weather) (y : ByteArray × Bool) (H : impl_WeatherText a0 = some y) : Spec Tryz.prog 6 [(.agg [(.v (.int .i64 a0.1)), (.v (.int .i64 a0.2.1)), (.v (.int .i64 a0.2.2.1)), (.v (.int .i64 a0.2.2.2.1)), (.bl a0.2.2.2.2.1)])] [] (impl_WeatherText.res a0 y) (impl_WeatherText.out a0 y) := by
  refine spec_intro (G14_ok.at tok []) (ct := []) Tryz.func6 rfl (by kernel_rfl) (by kernel_rfl) rfl ?_
  repeat' first
    | ((with_reducible refine eqg ?_); exact rfl)
    | ((with_reducible refine KOb.mk ?_); kernel_rfl)
    | ((with_reducible intro h); (repeat (first | replace H := grd_k H | replace H := out_step H (by assumption))); first | replace H := cond_t h H | replace H := cond_f h H | exact absurd h (by decide) | skip)
    | ((with_reducible refine Ob.mk ?_); first | (with_reducible rfl) | (first | ((repeat (first | (with_reducible exact grd_p H) | (replace H := grd_k H) | (replace H := out_step H (by assumption)))); done) | rfl | ((repeat (first | exact grd_p H | replace H := grd_k H | replace H := out_step H (by assumption))); done) | ((repeat (first | exact grd_p H | (have hp := grd_p H; exact hp) | replace H := grd_k H | replace H := out_step H (by assumption) | (replace H := bind_some H; obtain ⟨_, _, H⟩ := H))); done) | (repeat (first | exact grd_p H | replace H := grd_k H | replace H := out_step H (by assumption)))))
    | (with_reducible exact True.intro)
    | ((conv => whnf); first
        | (with_reducible refine And.intro ?_ ?_)
        | (with_reducible exact True.intro)
        | ((with_reducible refine Ob.mk ?_); first | (with_reducible rfl) | (first | ((repeat (first | (with_reducible exact grd_p H) | (replace H := grd_k H) | (replace H := out_step H (by assumption)))); done) | rfl | ((repeat (first | exact grd_p H | replace H := grd_k H | replace H := out_step H (by assumption))); done) | ((repeat (first | exact grd_p H | (have hp := grd_p H; exact hp) | replace H := grd_k H | replace H := out_step H (by assumption) | (replace H := bind_some H; obtain ⟨_, _, H⟩ := H))); done) | (repeat (first | exact grd_p H | replace H := grd_k H | replace H := out_step H (by assumption)))))
        | ((with_reducible refine CallW.mk ?_); (repeat (first | replace H := grd_k H | replace H := out_step H (by assumption))); replace H := bind_some H; obtain ⟨y, hy, H⟩ := H; first | ((with_reducible have hz : impl_IsWeather _ = some y := hy); clear hz; refine Exists.intro _ (Exists.intro _ ⟨impl_IsWeather.call hy ?_, rfl, rfl, ?_⟩)) | ((with_reducible have hz : impl_weatherText _ = some y := hy); clear hz; refine Exists.intro _ (Exists.intro _ ⟨impl_weatherText.call hy ?_, rfl, rfl, ?_⟩)))
        | ((with_reducible refine fin_mk ?_); (repeat (first | replace H := grd_k H | replace H := out_step H (by assumption))); have H := Option.some.inj H; subst H))
    | constructor
def G15 : Env := G14.add 6 [] impl_WeatherText.S
theorem G15_ok : EnvOk Tryz.prog G15 := G14_ok.add ent_6 fun ar h r h1 ⟨a0, y, hy, e1, e2, e3, e4⟩ => by
  subst e3 e4; exact (impl_WeatherText.spec a0 y hy).le e1 e2
attribute [local irreducible] impl_WeatherText

noncomputable def spec_l1In (a0 : Int) (a1 : Int) (a2 : Int) : Option (Bool) :=
  (cond (decide (a1 ≤ a0)) ((some (decide (a0 ≤ a2)))) ((some false)))
def spec_l1In.res (_ : Int) (_ : Int) (_ : Int) (y : Bool) : AV := (.bl y)
def spec_l1In.out (_ : Int) (_ : Int) (_ : Int) (_ : Bool) : List (Option LB) := []
def spec_l1In.S (ar : List AV) (h : List (Option LB)) (r : AV) (h1 : List (Option LB)) : Prop := ∃ a0 a1 a2 y, spec_l1In a0 a1 a2 = some y ∧ leL ar [(.v (.int .i64 a0)), (.v (.int .i64 a1)), (.v (.int .i64 a2))] ∧ leH h [] ∧ r = spec_l1In.res a0 a1 a2 y ∧ h1 = spec_l1In.out a0 a1 a2 y
theorem spec_l1In.call {ar : List AV} {h : List (Option LB)} {a0 : Int} {a1 : Int} {a2 : Int} {y : Bool} (H : spec_l1In a0 a1 a2 = some y) (h0 : leLk ar [(.v (.int .i64 a0)), (.v (.int .i64 a1)), (.v (.int .i64 a2))] (leHk h [])) : spec_l1In.S ar h (spec_l1In.res a0 a1 a2 y) (spec_l1In.out a0 a1 a2 y) := ⟨a0, a1, a2, y, H, (args_ok h0).1, (args_ok h0).2, rfl, rfl⟩
set_option maxHeartbeats 100000000 in
set_option maxRecDepth 100000 in
theorem spec_l1In.spec (a0 : Int) (a1 : Int) (a2 : Int) (y : Bool) (H : spec_l1In a0 a1 a2 = some y) : Spec Tryz.prog 45 [(.v (.int .i64 a0)), (.v (.int .i64 a1)), (.v (.int .i64 a2))] [] (spec_l1In.res a0 a1 a2 y) (spec_l1In.out a0 a1 a2 y) := by
  refine spec_intro (G15_ok.at tok []) (ct := []) Tryz.func45 rfl (by kernel_rfl) (by kernel_rfl) rfl ?_
  repeat' first
    | ((with_reducible refine eqg ?_); exact rfl)
    | ((with_reducible refine KOb.mk ?_); kernel_rfl)
    | ((with_reducible intro h); (repeat (first | replace H := grd_k H | replace H := out_step H (by assumption))); first | replace H := cond_t h H | replace H := cond_f h H | exact absurd h (by decide) | skip)
    | ((with_reducible refine Ob.mk ?_); first | (with_reducible rfl) | (first | ((repeat (first | (with_reducible exact grd_p H) | (replace H := grd_k H) | (replace H := out_step H (by assumption)))); done) | rfl | ((repeat (first | exact grd_p H | replace H := grd_k H | replace H := out_step H (by assumption))); done) | ((repeat (first | exact grd_p H | (have hp := grd_p H; exact hp) | replace H := grd_k H | replace H := out_step H (by assumption) | (replace H := bind_some H; obtain ⟨_, _, H⟩ := H))); done) | (repeat (first | exact grd_p H | replace H := grd_k H | replace H := out_step H (by assumption)))))
    | (with_reducible exact True.intro)
    | ((conv => whnf); first
        | (with_reducible refine And.intro ?_ ?_)
        | (with_reducible exact True.intro)
        | ((with_reducible refine Ob.mk ?_); first | (with_reducible rfl) | (first | ((repeat (first | (with_reducible exact grd_p H) | (replace H := grd_k H) | (replace H := out_step H (by assumption)))); done) | rfl | ((repeat (first | exact grd_p H | replace H := grd_k H | replace H := out_step H (by assumption))); done) | ((repeat (first | exact grd_p H | (have hp := grd_p H; exact hp) | replace H := grd_k H | replace H := out_step H (by assumption) | (replace H := bind_some H; obtain ⟨_, _, H⟩ := H))); done) | (repeat (first | exact grd_p H | replace H := grd_k H | replace H := out_step H (by assumption)))))
        | ((with_reducible refine fin_mk ?_); (repeat (first | replace H := grd_k H | replace H := out_step H (by assumption))); have H := Option.some.inj H; subst H))
    | constructor
def G16 : Env := G15.add 45 [] spec_l1In.S
theorem G16_ok : EnvOk Tryz.prog G16 := G15_ok.add ent_45 fun ar h r h1 ⟨a0, a1, a2, y, hy, e1, e2, e3, e4⟩ => by
  subst e3 e4; exact (spec_l1In.spec a0 a1 a2 y hy).le e1 e2
attribute [local irreducible] spec_l1In

noncomputable def spec_l17Minute (a0 : Int) : Option (Bool) :=
  ((spec_l1In a0 (0 : Int) (9999 : Int)).bind fun y1 => (some y1))
def spec_l17Minute.res (_ : Int) (y : Bool) : AV := (.bl y)
def spec_l17Minute.out (_ : Int) (_ : Bool) : List (Option LB) := []
def spec_l17Minute.S (ar : List AV) (h : List (Option LB)) (r : AV) (h1 : List (Option LB)) : Prop := ∃ a0 y, spec_l17Minute a0 = some y ∧ leL ar [(.v (.int .i64 a0))] ∧ leH h [] ∧ r = spec_l17Minute.res a0 y ∧ h1 = spec_l17Minute.out a0 y
theorem spec_l17Minute.call {ar : List AV} {h : List (Option LB)} {a0 : Int} {y : Bool} (H : spec_l17Minute a0 = some y) (h0 : leLk ar [(.v (.int .i64 a0))] (leHk h [])) : spec_l17Minute.S ar h (spec_l17Minute.res a0 y) (spec_l17Minute.out a0 y) := ⟨a0, y, H, (args_ok h0).1, (args_ok h0).2, rfl, rfl⟩
set_option maxHeartbeats 100000000 in
set_option maxRecDepth 100000 in
theorem spec_l17Minute.spec (a0 : Int) (y : Bool) (H : spec_l17Minute a0 = some y) : Spec Tryz.prog 44 [(.v (.int .i64 a0))] [] (spec_l17Minute.res a0 y) (spec_l17Minute.out a0 y) := by
  refine spec_intro (G16_ok.at tok []) (ct := []) Tryz.func44 rfl (by kernel_rfl) (by kernel_rfl) rfl ?_
  repeat' first
    | ((with_reducible refine eqg ?_); exact rfl)
    | ((with_reducible refine KOb.mk ?_); kernel_rfl)
    | ((with_reducible intro h); (repeat (first | replace H := grd_k H | replace H := out_step H (by assumption))); first | replace H := cond_t h H | replace H := cond_f h H | exact absurd h (by decide) | skip)
    | ((with_reducible refine Ob.mk ?_); first | (with_reducible rfl) | (first | ((repeat (first | (with_reducible exact grd_p H) | (replace H := grd_k H) | (replace H := out_step H (by assumption)))); done) | rfl | ((repeat (first | exact grd_p H | replace H := grd_k H | replace H := out_step H (by assumption))); done) | ((repeat (first | exact grd_p H | (have hp := grd_p H; exact hp) | replace H := grd_k H | replace H := out_step H (by assumption) | (replace H := bind_some H; obtain ⟨_, _, H⟩ := H))); done) | (repeat (first | exact grd_p H | replace H := grd_k H | replace H := out_step H (by assumption)))))
    | (with_reducible exact True.intro)
    | ((conv => whnf); first
        | (with_reducible refine And.intro ?_ ?_)
        | (with_reducible exact True.intro)
        | ((with_reducible refine Ob.mk ?_); first | (with_reducible rfl) | (first | ((repeat (first | (with_reducible exact grd_p H) | (replace H := grd_k H) | (replace H := out_step H (by assumption)))); done) | rfl | ((repeat (first | exact grd_p H | replace H := grd_k H | replace H := out_step H (by assumption))); done) | ((repeat (first | exact grd_p H | (have hp := grd_p H; exact hp) | replace H := grd_k H | replace H := out_step H (by assumption) | (replace H := bind_some H; obtain ⟨_, _, H⟩ := H))); done) | (repeat (first | exact grd_p H | replace H := grd_k H | replace H := out_step H (by assumption)))))
        | ((with_reducible refine CallW.mk ?_); (repeat (first | replace H := grd_k H | replace H := out_step H (by assumption))); replace H := bind_some H; obtain ⟨y, hy, H⟩ := H; first | ((with_reducible have hz : spec_l1In _ _ _ = some y := hy); clear hz; refine Exists.intro _ (Exists.intro _ ⟨spec_l1In.call hy ?_, rfl, rfl, ?_⟩)))
        | ((with_reducible refine fin_mk ?_); (repeat (first | replace H := grd_k H | replace H := out_step H (by assumption))); have H := Option.some.inj H; subst H))
    | constructor
def G17 : Env := G16.add 44 [] spec_l17Minute.S
theorem G17_ok : EnvOk Tryz.prog G17 := G16_ok.add ent_44 fun ar h r h1 ⟨a0, y, hy, e1, e2, e3, e4⟩ => by
  subst e3 e4; exact (spec_l17Minute.spec a0 y hy).le e1 e2
attribute [local irreducible] spec_l17Minute

noncomputable def spec_l17Wind (a0 : Int) : Option (Bool) :=
  ((spec_l1In a0 (0 : Int) (600 : Int)).bind fun y1 => (some y1))
def spec_l17Wind.res (_ : Int) (y : Bool) : AV := (.bl y)
def spec_l17Wind.out (_ : Int) (_ : Bool) : List (Option LB) := []
def spec_l17Wind.S (ar : List AV) (h : List (Option LB)) (r : AV) (h1 : List (Option LB)) : Prop := ∃ a0 y, spec_l17Wind a0 = some y ∧ leL ar [(.v (.int .i64 a0))] ∧ leH h [] ∧ r = spec_l17Wind.res a0 y ∧ h1 = spec_l17Wind.out a0 y
theorem spec_l17Wind.call {ar : List AV} {h : List (Option LB)} {a0 : Int} {y : Bool} (H : spec_l17Wind a0 = some y) (h0 : leLk ar [(.v (.int .i64 a0))] (leHk h [])) : spec_l17Wind.S ar h (spec_l17Wind.res a0 y) (spec_l17Wind.out a0 y) := ⟨a0, y, H, (args_ok h0).1, (args_ok h0).2, rfl, rfl⟩
set_option maxHeartbeats 100000000 in
set_option maxRecDepth 100000 in
theorem spec_l17Wind.spec (a0 : Int) (y : Bool) (H : spec_l17Wind a0 = some y) : Spec Tryz.prog 48 [(.v (.int .i64 a0))] [] (spec_l17Wind.res a0 y) (spec_l17Wind.out a0 y) := by
  refine spec_intro (G17_ok.at tok []) (ct := []) Tryz.func48 rfl (by kernel_rfl) (by kernel_rfl) rfl ?_
  repeat' first
    | ((with_reducible refine eqg ?_); exact rfl)
    | ((with_reducible refine KOb.mk ?_); kernel_rfl)
    | ((with_reducible intro h); (repeat (first | replace H := grd_k H | replace H := out_step H (by assumption))); first | replace H := cond_t h H | replace H := cond_f h H | exact absurd h (by decide) | skip)
    | ((with_reducible refine Ob.mk ?_); first | (with_reducible rfl) | (first | ((repeat (first | (with_reducible exact grd_p H) | (replace H := grd_k H) | (replace H := out_step H (by assumption)))); done) | rfl | ((repeat (first | exact grd_p H | replace H := grd_k H | replace H := out_step H (by assumption))); done) | ((repeat (first | exact grd_p H | (have hp := grd_p H; exact hp) | replace H := grd_k H | replace H := out_step H (by assumption) | (replace H := bind_some H; obtain ⟨_, _, H⟩ := H))); done) | (repeat (first | exact grd_p H | replace H := grd_k H | replace H := out_step H (by assumption)))))
    | (with_reducible exact True.intro)
    | ((conv => whnf); first
        | (with_reducible refine And.intro ?_ ?_)
        | (with_reducible exact True.intro)
        | ((with_reducible refine Ob.mk ?_); first | (with_reducible rfl) | (first | ((repeat (first | (with_reducible exact grd_p H) | (replace H := grd_k H) | (replace H := out_step H (by assumption)))); done) | rfl | ((repeat (first | exact grd_p H | replace H := grd_k H | replace H := out_step H (by assumption))); done) | ((repeat (first | exact grd_p H | (have hp := grd_p H; exact hp) | replace H := grd_k H | replace H := out_step H (by assumption) | (replace H := bind_some H; obtain ⟨_, _, H⟩ := H))); done) | (repeat (first | exact grd_p H | replace H := grd_k H | replace H := out_step H (by assumption)))))
        | ((with_reducible refine CallW.mk ?_); (repeat (first | replace H := grd_k H | replace H := out_step H (by assumption))); replace H := bind_some H; obtain ⟨y, hy, H⟩ := H; first | ((with_reducible have hz : spec_l1In _ _ _ = some y := hy); clear hz; refine Exists.intro _ (Exists.intro _ ⟨spec_l1In.call hy ?_, rfl, rfl, ?_⟩)))
        | ((with_reducible refine fin_mk ?_); (repeat (first | replace H := grd_k H | replace H := out_step H (by assumption))); have H := Option.some.inj H; subst H))
    | constructor
def G18 : Env := G17.add 48 [] spec_l17Wind.S
theorem G18_ok : EnvOk Tryz.prog G18 := G17_ok.add ent_48 fun ar h r h1 ⟨a0, y, hy, e1, e2, e3, e4⟩ => by
  subst e3 e4; exact (spec_l17Wind.spec a0 y hy).le e1 e2
attribute [local irreducible] spec_l17Wind

noncomputable def spec_l17Way (a0 : Int) : Option (Bool) :=
  ((spec_l1In a0 (0 : Int) (359 : Int)).bind fun y1 => (some y1))
def spec_l17Way.res (_ : Int) (y : Bool) : AV := (.bl y)
def spec_l17Way.out (_ : Int) (_ : Bool) : List (Option LB) := []
def spec_l17Way.S (ar : List AV) (h : List (Option LB)) (r : AV) (h1 : List (Option LB)) : Prop := ∃ a0 y, spec_l17Way a0 = some y ∧ leL ar [(.v (.int .i64 a0))] ∧ leH h [] ∧ r = spec_l17Way.res a0 y ∧ h1 = spec_l17Way.out a0 y
theorem spec_l17Way.call {ar : List AV} {h : List (Option LB)} {a0 : Int} {y : Bool} (H : spec_l17Way a0 = some y) (h0 : leLk ar [(.v (.int .i64 a0))] (leHk h [])) : spec_l17Way.S ar h (spec_l17Way.res a0 y) (spec_l17Way.out a0 y) := ⟨a0, y, H, (args_ok h0).1, (args_ok h0).2, rfl, rfl⟩
set_option maxHeartbeats 100000000 in
set_option maxRecDepth 100000 in
theorem spec_l17Way.spec (a0 : Int) (y : Bool) (H : spec_l17Way a0 = some y) : Spec Tryz.prog 38 [(.v (.int .i64 a0))] [] (spec_l17Way.res a0 y) (spec_l17Way.out a0 y) := by
  refine spec_intro (G18_ok.at tok []) (ct := []) Tryz.func38 rfl (by kernel_rfl) (by kernel_rfl) rfl ?_
  repeat' first
    | ((with_reducible refine eqg ?_); exact rfl)
    | ((with_reducible refine KOb.mk ?_); kernel_rfl)
    | ((with_reducible intro h); (repeat (first | replace H := grd_k H | replace H := out_step H (by assumption))); first | replace H := cond_t h H | replace H := cond_f h H | exact absurd h (by decide) | skip)
    | ((with_reducible refine Ob.mk ?_); first | (with_reducible rfl) | (first | ((repeat (first | (with_reducible exact grd_p H) | (replace H := grd_k H) | (replace H := out_step H (by assumption)))); done) | rfl | ((repeat (first | exact grd_p H | replace H := grd_k H | replace H := out_step H (by assumption))); done) | ((repeat (first | exact grd_p H | (have hp := grd_p H; exact hp) | replace H := grd_k H | replace H := out_step H (by assumption) | (replace H := bind_some H; obtain ⟨_, _, H⟩ := H))); done) | (repeat (first | exact grd_p H | replace H := grd_k H | replace H := out_step H (by assumption)))))
    | (with_reducible exact True.intro)
    | ((conv => whnf); first
        | (with_reducible refine And.intro ?_ ?_)
        | (with_reducible exact True.intro)
        | ((with_reducible refine Ob.mk ?_); first | (with_reducible rfl) | (first | ((repeat (first | (with_reducible exact grd_p H) | (replace H := grd_k H) | (replace H := out_step H (by assumption)))); done) | rfl | ((repeat (first | exact grd_p H | replace H := grd_k H | replace H := out_step H (by assumption))); done) | ((repeat (first | exact grd_p H | (have hp := grd_p H; exact hp) | replace H := grd_k H | replace H := out_step H (by assumption) | (replace H := bind_some H; obtain ⟨_, _, H⟩ := H))); done) | (repeat (first | exact grd_p H | replace H := grd_k H | replace H := out_step H (by assumption)))))
        | ((with_reducible refine CallW.mk ?_); (repeat (first | replace H := grd_k H | replace H := out_step H (by assumption))); replace H := bind_some H; obtain ⟨y, hy, H⟩ := H; first | ((with_reducible have hz : spec_l1In _ _ _ = some y := hy); clear hz; refine Exists.intro _ (Exists.intro _ ⟨spec_l1In.call hy ?_, rfl, rfl, ?_⟩)))
        | ((with_reducible refine fin_mk ?_); (repeat (first | replace H := grd_k H | replace H := out_step H (by assumption))); have H := Option.some.inj H; subst H))
    | constructor
def G19 : Env := G18.add 38 [] spec_l17Way.S
theorem G19_ok : EnvOk Tryz.prog G19 := G18_ok.add ent_38 fun ar h r h1 ⟨a0, y, hy, e1, e2, e3, e4⟩ => by
  subst e3 e4; exact (spec_l17Way.spec a0 y hy).le e1 e2
attribute [local irreducible] spec_l17Way

noncomputable def spec_l17One (a0 : Weather) : Option (Bool) :=
  ((spec_l17Minute a0.1).bind fun y1 => (cond y1 ((spec_l17Wind a0.2.1).bind fun y2 => (cond y2 ((spec_l17Way a0.2.2.1).bind fun y3 => (cond y3 ((spec_l1In a0.2.2.2.1 ((-400) : Int) (500 : Int)).bind fun y4 => (some y4)) ((some false)))) ((some false)))) ((some false))))
def spec_l17One.res (_ : Weather) (y : Bool) : AV := (.bl y)
def spec_l17One.out (_ : Weather) (_ : Bool) : List (Option LB) := []
def spec_l17One.S (ar : List AV) (h : List (Option LB)) (r : AV) (h1 : List (Option LB)) : Prop := ∃ a0 y, spec_l17One a0 = some y ∧ leL ar [(.agg [(.v (.int .i64 a0.1)), (.v (.int .i64 a0.2.1)), (.v (.int .i64 a0.2.2.1)), (.v (.int .i64 a0.2.2.2.1)), (.bl a0.2.2.2.2.1)])] ∧ leH h [] ∧ r = spec_l17One.res a0 y ∧ h1 = spec_l17One.out a0 y
theorem spec_l17One.call {ar : List AV} {h : List (Option LB)} {a0 : Weather} {y : Bool} (H : spec_l17One a0 = some y) (h0 : leLk ar [(.agg [(.v (.int .i64 a0.1)), (.v (.int .i64 a0.2.1)), (.v (.int .i64 a0.2.2.1)), (.v (.int .i64 a0.2.2.2.1)), (.bl a0.2.2.2.2.1)])] (leHk h [])) : spec_l17One.S ar h (spec_l17One.res a0 y) (spec_l17One.out a0 y) := ⟨a0, y, H, (args_ok h0).1, (args_ok h0).2, rfl, rfl⟩
set_option maxHeartbeats 100000000 in
set_option maxRecDepth 100000 in
theorem spec_l17One.spec (a0 : Weather) (y : Bool) (H : spec_l17One a0 = some y) : Spec Tryz.prog 22 [(.agg [(.v (.int .i64 a0.1)), (.v (.int .i64 a0.2.1)), (.v (.int .i64 a0.2.2.1)), (.v (.int .i64 a0.2.2.2.1)), (.bl a0.2.2.2.2.1)])] [] (spec_l17One.res a0 y) (spec_l17One.out a0 y) := by
  refine spec_intro (G19_ok.at tok []) (ct := []) Tryz.func22 rfl (by kernel_rfl) (by kernel_rfl) rfl ?_
  repeat' first
    | ((with_reducible refine eqg ?_); exact rfl)
    | ((with_reducible refine KOb.mk ?_); kernel_rfl)
    | ((with_reducible intro h); (repeat (first | replace H := grd_k H | replace H := out_step H (by assumption))); first | replace H := cond_t h H | replace H := cond_f h H | exact absurd h (by decide) | skip)
    | ((with_reducible refine Ob.mk ?_); first | (with_reducible rfl) | (first | ((repeat (first | (with_reducible exact grd_p H) | (replace H := grd_k H) | (replace H := out_step H (by assumption)))); done) | rfl | ((repeat (first | exact grd_p H | replace H := grd_k H | replace H := out_step H (by assumption))); done) | ((repeat (first | exact grd_p H | (have hp := grd_p H; exact hp) | replace H := grd_k H | replace H := out_step H (by assumption) | (replace H := bind_some H; obtain ⟨_, _, H⟩ := H))); done) | (repeat (first | exact grd_p H | replace H := grd_k H | replace H := out_step H (by assumption)))))
    | (with_reducible exact True.intro)
    | ((conv => whnf); first
        | (with_reducible refine And.intro ?_ ?_)
        | (with_reducible exact True.intro)
        | ((with_reducible refine Ob.mk ?_); first | (with_reducible rfl) | (first | ((repeat (first | (with_reducible exact grd_p H) | (replace H := grd_k H) | (replace H := out_step H (by assumption)))); done) | rfl | ((repeat (first | exact grd_p H | replace H := grd_k H | replace H := out_step H (by assumption))); done) | ((repeat (first | exact grd_p H | (have hp := grd_p H; exact hp) | replace H := grd_k H | replace H := out_step H (by assumption) | (replace H := bind_some H; obtain ⟨_, _, H⟩ := H))); done) | (repeat (first | exact grd_p H | replace H := grd_k H | replace H := out_step H (by assumption)))))
        | ((with_reducible refine CallW.mk ?_); (repeat (first | replace H := grd_k H | replace H := out_step H (by assumption))); replace H := bind_some H; obtain ⟨y, hy, H⟩ := H; first | ((with_reducible have hz : spec_l17Minute _ = some y := hy); clear hz; refine Exists.intro _ (Exists.intro _ ⟨spec_l17Minute.call hy ?_, rfl, rfl, ?_⟩)) | ((with_reducible have hz : spec_l17Wind _ = some y := hy); clear hz; refine Exists.intro _ (Exists.intro _ ⟨spec_l17Wind.call hy ?_, rfl, rfl, ?_⟩)) | ((with_reducible have hz : spec_l17Way _ = some y := hy); clear hz; refine Exists.intro _ (Exists.intro _ ⟨spec_l17Way.call hy ?_, rfl, rfl, ?_⟩)) | ((with_reducible have hz : spec_l1In _ _ _ = some y := hy); clear hz; refine Exists.intro _ (Exists.intro _ ⟨spec_l1In.call hy ?_, rfl, rfl, ?_⟩)))
        | ((with_reducible refine fin_mk ?_); (repeat (first | replace H := grd_k H | replace H := out_step H (by assumption))); have H := Option.some.inj H; subst H))
    | constructor
def G20 : Env := G19.add 22 [] spec_l17One.S
theorem G20_ok : EnvOk Tryz.prog G20 := G19_ok.add ent_22 fun ar h r h1 ⟨a0, y, hy, e1, e2, e3, e4⟩ => by
  subst e3 e4; exact (spec_l17One.spec a0 y hy).le e1 e2
attribute [local irreducible] spec_l17One

noncomputable def spec_l1Num_f : Nat → Int → Option (ByteArray)
  | 0, _ => none
  | k + 1, a0 => (cond (decide (a0 < (0 : Int))) ((spec_l1Num_f k (w64 (0 - a0))).bind fun y1 => (grd ((ByteArray.mk #[45]).size + y1.size ≤ 9223372036854775807) ((some ((ByteArray.mk #[45]) ++ y1))))) (cond (decide (a0 < (10 : Int))) (grd (0 ≤ a0 ∧ a0 ≤ (w64 (a0 + (1 : Int))) ∧ (w64 (a0 + (1 : Int))) ≤ ((ByteArray.mk #[48, 49, 50, 51, 52, 53, 54, 55, 56, 57]).size : Int)) ((some (bsub (ByteArray.mk #[48, 49, 50, 51, 52, 53, 54, 55, 56, 57]) a0 (w64 (a0 + (1 : Int))))))) (grd ((10 : Int) ≠ 0) ((spec_l1Num_f k (w64 (Int.tdiv a0 (10 : Int)))).bind fun y2 => (grd ((10 : Int) ≠ 0) (grd ((10 : Int) ≠ 0) (grd (0 ≤ (Int.tmod a0 (10 : Int)) ∧ (Int.tmod a0 (10 : Int)) ≤ (w64 ((Int.tmod a0 (10 : Int)) + (1 : Int))) ∧ (w64 ((Int.tmod a0 (10 : Int)) + (1 : Int))) ≤ ((ByteArray.mk #[48, 49, 50, 51, 52, 53, 54, 55, 56, 57]).size : Int)) (grd (y2.size + (bsub (ByteArray.mk #[48, 49, 50, 51, 52, 53, 54, 55, 56, 57]) (Int.tmod a0 (10 : Int)) (w64 ((Int.tmod a0 (10 : Int)) + (1 : Int)))).size ≤ 9223372036854775807) ((some (y2 ++ (bsub (ByteArray.mk #[48, 49, 50, 51, 52, 53, 54, 55, 56, 57]) (Int.tmod a0 (10 : Int)) (w64 ((Int.tmod a0 (10 : Int)) + (1 : Int)))))))))))))))
theorem spec_l1Num_f_succ (k : Nat) (a0 : Int) : spec_l1Num_f (k + 1) a0 = (cond (decide (a0 < (0 : Int))) ((spec_l1Num_f k (w64 (0 - a0))).bind fun y1 => (grd ((ByteArray.mk #[45]).size + y1.size ≤ 9223372036854775807) ((some ((ByteArray.mk #[45]) ++ y1))))) (cond (decide (a0 < (10 : Int))) (grd (0 ≤ a0 ∧ a0 ≤ (w64 (a0 + (1 : Int))) ∧ (w64 (a0 + (1 : Int))) ≤ ((ByteArray.mk #[48, 49, 50, 51, 52, 53, 54, 55, 56, 57]).size : Int)) ((some (bsub (ByteArray.mk #[48, 49, 50, 51, 52, 53, 54, 55, 56, 57]) a0 (w64 (a0 + (1 : Int))))))) (grd ((10 : Int) ≠ 0) ((spec_l1Num_f k (w64 (Int.tdiv a0 (10 : Int)))).bind fun y2 => (grd ((10 : Int) ≠ 0) (grd ((10 : Int) ≠ 0) (grd (0 ≤ (Int.tmod a0 (10 : Int)) ∧ (Int.tmod a0 (10 : Int)) ≤ (w64 ((Int.tmod a0 (10 : Int)) + (1 : Int))) ∧ (w64 ((Int.tmod a0 (10 : Int)) + (1 : Int))) ≤ ((ByteArray.mk #[48, 49, 50, 51, 52, 53, 54, 55, 56, 57]).size : Int)) (grd (y2.size + (bsub (ByteArray.mk #[48, 49, 50, 51, 52, 53, 54, 55, 56, 57]) (Int.tmod a0 (10 : Int)) (w64 ((Int.tmod a0 (10 : Int)) + (1 : Int)))).size ≤ 9223372036854775807) ((some (y2 ++ (bsub (ByteArray.mk #[48, 49, 50, 51, 52, 53, 54, 55, 56, 57]) (Int.tmod a0 (10 : Int)) (w64 ((Int.tmod a0 (10 : Int)) + (1 : Int))))))))))))))) := rfl
attribute [local irreducible] spec_l1Num_f
noncomputable def spec_l1Num (a0 : Int) : Option (ByteArray) := spec_l1Num_f 64 a0
def spec_l1Num.res (_ : Int) (y : ByteArray) : AV := (.v (.string y))
def spec_l1Num.out (_ : Int) (_ : ByteArray) : List (Option LB) := []
def spec_l1Num.S (ar : List AV) (h : List (Option LB)) (r : AV) (h1 : List (Option LB)) : Prop := ∃ a0 y, spec_l1Num a0 = some y ∧ leL ar [(.v (.int .i64 a0))] ∧ leH h [] ∧ r = spec_l1Num.res a0 y ∧ h1 = spec_l1Num.out a0 y
theorem spec_l1Num.call {ar : List AV} {h : List (Option LB)} {a0 : Int} {y : ByteArray} (H : spec_l1Num a0 = some y) (h0 : leLk ar [(.v (.int .i64 a0))] (leHk h [])) : spec_l1Num.S ar h (spec_l1Num.res a0 y) (spec_l1Num.out a0 y) := ⟨a0, y, H, (args_ok h0).1, (args_ok h0).2, rfl, rfl⟩
def spec_l1Num_f.S (k : Nat) (ar : List AV) (h : List (Option LB)) (r : AV) (h1 : List (Option LB)) : Prop := ∃ a0 y, spec_l1Num_f k a0 = some y ∧ leL ar [(.v (.int .i64 a0))] ∧ leH h [] ∧ r = spec_l1Num.res a0 y ∧ h1 = spec_l1Num.out a0 y
theorem spec_l1Num_f.call {k : Nat} {ar : List AV} {h : List (Option LB)} {a0 : Int} {y : ByteArray} (H : spec_l1Num_f k a0 = some y) (h0 : leLk ar [(.v (.int .i64 a0))] (leHk h [])) : spec_l1Num_f.S k ar h (spec_l1Num.res a0 y) (spec_l1Num.out a0 y) := ⟨a0, y, H, (args_ok h0).1, (args_ok h0).2, rfl, rfl⟩
set_option maxHeartbeats 100000000 in
set_option maxRecDepth 100000 in
theorem spec_l1Num_f.spec (k : Nat) : ∀ (a0 : Int) (y : ByteArray) (_ : spec_l1Num_f k a0 = some y), Spec Tryz.prog 49 [(.v (.int .i64 a0))] [] (spec_l1Num.res a0 y) (spec_l1Num.out a0 y) := by
  induction k with
  | zero => intro a0 y H; unfold spec_l1Num_f at H; cases H
  | succ k IH =>
  intro a0 y H
  have H := (spec_l1Num_f_succ k a0).symm.trans H
  have hG : EnvOk Tryz.prog (G20.add 49 [] (spec_l1Num_f.S k)) := G20_ok.add ent_49 fun ar h r h1 ⟨a0, y, hy, e1, e2, e3, e4⟩ => by
    subst e3 e4; exact (IH a0 y hy).le e1 e2
  clear IH
  refine spec_intro (hG.at tok []) (ct := [(5, some [0])]) Tryz.func49 rfl (by kernel_rfl) (by kernel_rfl) rfl ?_
  repeat' first
    | ((with_reducible refine eqg ?_); exact rfl)
    | ((with_reducible refine KOb.mk ?_); kernel_rfl)
    | ((with_reducible intro h); (repeat (first | replace H := grd_k H | replace H := out_step H (by assumption))); first | replace H := cond_t h H | replace H := cond_f h H | exact absurd h (by decide) | skip)
    | ((with_reducible refine Ob.mk ?_); first | (with_reducible rfl) | (first | ((repeat (first | (with_reducible exact grd_p H) | (replace H := grd_k H) | (replace H := out_step H (by assumption)))); done) | rfl | ((repeat (first | exact grd_p H | replace H := grd_k H | replace H := out_step H (by assumption))); done) | ((repeat (first | exact grd_p H | (have hp := grd_p H; exact hp) | replace H := grd_k H | replace H := out_step H (by assumption) | (replace H := bind_some H; obtain ⟨_, _, H⟩ := H))); done) | (repeat (first | exact grd_p H | replace H := grd_k H | replace H := out_step H (by assumption)))))
    | (with_reducible exact True.intro)
    | ((conv => whnf); first
        | (with_reducible refine And.intro ?_ ?_)
        | (with_reducible exact True.intro)
        | ((with_reducible refine Ob.mk ?_); first | (with_reducible rfl) | (first | ((repeat (first | (with_reducible exact grd_p H) | (replace H := grd_k H) | (replace H := out_step H (by assumption)))); done) | rfl | ((repeat (first | exact grd_p H | replace H := grd_k H | replace H := out_step H (by assumption))); done) | ((repeat (first | exact grd_p H | (have hp := grd_p H; exact hp) | replace H := grd_k H | replace H := out_step H (by assumption) | (replace H := bind_some H; obtain ⟨_, _, H⟩ := H))); done) | (repeat (first | exact grd_p H | replace H := grd_k H | replace H := out_step H (by assumption)))))
        | ((with_reducible refine CallW.mk ?_); (repeat (first | replace H := grd_k H | replace H := out_step H (by assumption))); replace H := bind_some H; obtain ⟨y, hy, H⟩ := H; first | ((with_reducible have hz : spec_l1Num_f k _ = some y := hy); clear hz; refine Exists.intro _ (Exists.intro _ ⟨spec_l1Num_f.call hy ?_, rfl, rfl, ?_⟩)))
        | ((with_reducible refine fin_mk ?_); (repeat (first | replace H := grd_k H | replace H := out_step H (by assumption))); have H := Option.some.inj H; subst H))
    | constructor
theorem spec_l1Num.spec (a0 : Int) (y : ByteArray) (H : spec_l1Num a0 = some y) : Spec Tryz.prog 49 [(.v (.int .i64 a0))] [] (spec_l1Num.res a0 y) (spec_l1Num.out a0 y) := spec_l1Num_f.spec 64 a0 y H
def G21 : Env := G20.add 49 [] spec_l1Num.S
theorem G21_ok : EnvOk Tryz.prog G21 := G20_ok.add ent_49 fun ar h r h1 ⟨a0, y, hy, e1, e2, e3, e4⟩ => by
  subst e3 e4; exact (spec_l1Num.spec a0 y hy).le e1 e2
attribute [local irreducible] spec_l1Num

end Go.Proofs.YtaajchikfgbecaaGreatDoor
