/-
  Contracts, printed by a program.
-/
import Derived.Test.YtaajchikfgbecaaGreatDoorC844
namespace Go.Proofs.YtaajchikfgbecaaGreatDoor
open Go.RowKit
attribute [local irreducible] Ob loopwp Sub Spec Fin Again CallW CutC KOb iter joinx outm

attribute [local irreducible] laws_rBig spec_l1Cur_next spec_l1Cur_pick spec_l1Cur_among spec_l1Cur_one spec_l1Cur_weather spec_DrawIsWeather spec_DrawWeatherText impl_within impl_IsWeather strconv_Itoa impl_distance impl_tenths impl_weatherText impl_WeatherText spec_l1In spec_l17Minute spec_l17Wind spec_l17Way spec_l17One spec_l1Num spec_l1Num_f spec_l17Tenths spec_l17Tenths_f spec_l17Text spec_WeatherText strings_Split strings_Cut internal_stringslite_HasPrefix internal_stringslite_TrimPrefix

noncomputable def strings_TrimPrefix (a0 : ByteArray) (a1 : ByteArray) : Option (ByteArray) :=
  ((internal_stringslite_TrimPrefix a0 a1).bind fun y1 => (some y1))
def strings_TrimPrefix.res (_ : ByteArray) (_ : ByteArray) (y : ByteArray) : AV := (.v (.string y))
def strings_TrimPrefix.out (_ : ByteArray) (_ : ByteArray) (_ : ByteArray) : List (Option LB) := []
def strings_TrimPrefix.S (ar : List AV) (h : List (Option LB)) (r : AV) (h1 : List (Option LB)) : Prop := ∃ a0 a1 y, strings_TrimPrefix a0 a1 = some y ∧ leL ar [(.v (.string a0)), (.v (.string a1))] ∧ leH h [] ∧ r = strings_TrimPrefix.res a0 a1 y ∧ h1 = strings_TrimPrefix.out a0 a1 y
theorem strings_TrimPrefix.call {ar : List AV} {h : List (Option LB)} {a0 : ByteArray} {a1 : ByteArray} {y : ByteArray} (H : strings_TrimPrefix a0 a1 = some y) (h0 : leLk ar [(.v (.string a0)), (.v (.string a1))] (leHk h [])) : strings_TrimPrefix.S ar h (strings_TrimPrefix.res a0 a1 y) (strings_TrimPrefix.out a0 a1 y) := ⟨a0, a1, y, H, (args_ok h0).1, (args_ok h0).2, rfl, rfl⟩
set_option maxHeartbeats 100000000 in
set_option maxRecDepth 100000 in
theorem strings_TrimPrefix.spec (a0 : ByteArray) (a1 : ByteArray) (y : ByteArray) (H : strings_TrimPrefix a0 a1 = some y) : Spec Tryz.prog 55 [(.v (.string a0)), (.v (.string a1))] [] (strings_TrimPrefix.res a0 a1 y) (strings_TrimPrefix.out a0 a1 y) := by
  refine spec_intro (G28_ok.at tok []) (ct := []) Tryz.func55 rfl (by kernel_rfl) (by kernel_rfl) rfl ?_
  repeat' first
    | ((with_reducible refine eqg ?_); exact rfl)
    | ((with_reducible refine KOb.mk ?_); kernel_rfl)
    | ((with_reducible intro h); (repeat (first | replace H := grd_k H | replace H := out_step H (by assumption))); first | replace H := cond_t h H | replace H := cond_f h H | exact absurd h (by decide) | skip)
    | ((with_reducible refine Ob.mk ?_); first | (with_reducible rfl) | (first | ((repeat (first | (with_reducible exact grd_p H) | (replace H := grd_k H) | (replace H := out_step H (by assumption)))); done) | rfl | ((repeat (first | exact grd_p H | replace H := grd_k H | replace H := out_step H (by assumption))); done) | ((repeat (first | exact grd_p H | (have hp := grd_p H; exact hp) | replace H := grd_k H | replace H := out_step H (by assumption) | (replace H := bind_some H; obtain ⟨_, _, H⟩ := H))); done) | (repeat (first | exact grd_p H | replace H := grd_k H | replace H := out_step H (by assumption)))))
    | (with_reducible exact True.intro)
    | ((conv => whnf); first
        | (with_reducible refine And.intro ?_ ?_)
        | (with_reducible exact True.intro)
        | ((with_reducible refine Ob.mk ?_); first | (with_reducible rfl) | (first | ((repeat (first | (with_reducible exact grd_p H) | (replace H := grd_k H) | (replace H := out_step H (by assumption)))); done) | rfl | ((repeat (first | exact grd_p H | replace H := grd_k H | replace H := out_step H (by assumption))); done) | ((repeat (first | exact grd_p H | (have hp := grd_p H; exact hp) | replace H := grd_k H | replace H := out_step H (by assumption) | (replace H := bind_some H; obtain ⟨_, _, H⟩ := H))); done) | (repeat (first | exact grd_p H | replace H := grd_k H | replace H := out_step H (by assumption)))))
        | ((with_reducible refine CallW.mk ?_); (repeat (first | replace H := grd_k H | replace H := out_step H (by assumption))); replace H := bind_some H; obtain ⟨y, hy, H⟩ := H; first | ((with_reducible have hz : internal_stringslite_TrimPrefix _ _ = some y := hy); clear hz; refine Exists.intro _ (Exists.intro _ ⟨internal_stringslite_TrimPrefix.call hy ?_, rfl, rfl, ?_⟩)))
        | ((with_reducible refine fin_mk ?_); (repeat (first | replace H := grd_k H | replace H := out_step H (by assumption))); have H := Option.some.inj H; subst H))
    | constructor
def G29 : Env := G28.add 55 [] strings_TrimPrefix.S
theorem G29_ok : EnvOk Tryz.prog G29 := G28_ok.add ent_55 fun ar h r h1 ⟨a0, a1, y, hy, e1, e2, e3, e4⟩ => by
  subst e3 e4; exact (strings_TrimPrefix.spec a0 a1 y hy).le e1 e2
attribute [local irreducible] strings_TrimPrefix

noncomputable def strings_Replace (a0 : ByteArray) (a1 : ByteArray) (a2 : ByteArray) (a3 : Int) : Option (ByteArray) :=
  (grd (a0.size < 4294967281 ∧ 1 ≤ a1.size ∧ a0.size + Lib.countB a0 a1 * a2.size ≤ 140737488355328) ((some (replB a0 a1 a2 a3))))
def strings_Replace.res (_ : ByteArray) (_ : ByteArray) (_ : ByteArray) (_ : Int) (y : ByteArray) : AV := (.v (.string y))
def strings_Replace.out (_ : ByteArray) (_ : ByteArray) (_ : ByteArray) (_ : Int) (_ : ByteArray) : List (Option LB) := []
def strings_Replace.S (ar : List AV) (h : List (Option LB)) (r : AV) (h1 : List (Option LB)) : Prop := ∃ a0 a1 a2 a3 y, strings_Replace a0 a1 a2 a3 = some y ∧ leL ar [(.v (.string a0)), (.v (.string a1)), (.v (.string a2)), (.v (.int .i64 a3))] ∧ leH h [] ∧ r = strings_Replace.res a0 a1 a2 a3 y ∧ h1 = strings_Replace.out a0 a1 a2 a3 y
theorem strings_Replace.call {ar : List AV} {h : List (Option LB)} {a0 : ByteArray} {a1 : ByteArray} {a2 : ByteArray} {a3 : Int} {y : ByteArray} (H : strings_Replace a0 a1 a2 a3 = some y) (h0 : leLk ar [(.v (.string a0)), (.v (.string a1)), (.v (.string a2)), (.v (.int .i64 a3))] (leHk h [])) : strings_Replace.S ar h (strings_Replace.res a0 a1 a2 a3 y) (strings_Replace.out a0 a1 a2 a3 y) := ⟨a0, a1, a2, a3, y, H, (args_ok h0).1, (args_ok h0).2, rfl, rfl⟩
theorem strings_Replace.spec (a0 : ByteArray) (a1 : ByteArray) (a2 : ByteArray) (a3 : Int) (y : ByteArray) (H : strings_Replace a0 a1 a2 a3 = some y) : Spec Tryz.prog 54 [(.v (.string a0)), (.v (.string a1)), (.v (.string a2)), (.v (.int .i64 a3))] [] (strings_Replace.res a0 a1 a2 a3 y) (strings_Replace.out a0 a1 a2 a3 y) := by
  have hg := grd_p H
  have H := Option.some.inj (grd_k H)
  subst H
  exact ext_strings_Replace a0 a1 a2 a3 hg
def G30 : Env := G29.add 54 [] strings_Replace.S
theorem G30_ok : EnvOk Tryz.prog G30 := G29_ok.add ent_54 fun ar h r h1 ⟨a0, a1, a2, a3, y, hy, e1, e2, e3, e4⟩ => by
  subst e3 e4; exact (strings_Replace.spec a0 a1 a2 a3 y hy).le e1 e2
attribute [local irreducible] strings_Replace

noncomputable def strings_TrimLeft (a0 : ByteArray) (a1 : ByteArray) : Option (ByteArray) :=
  (grd (a1.size = 1 ∧ asciiB a1 = true) ((some (trimL a0 a1))))
def strings_TrimLeft.res (_ : ByteArray) (_ : ByteArray) (y : ByteArray) : AV := (.v (.string y))
def strings_TrimLeft.out (_ : ByteArray) (_ : ByteArray) (_ : ByteArray) : List (Option LB) := []
def strings_TrimLeft.S (ar : List AV) (h : List (Option LB)) (r : AV) (h1 : List (Option LB)) : Prop := ∃ a0 a1 y, strings_TrimLeft a0 a1 = some y ∧ leL ar [(.v (.string a0)), (.v (.string a1))] ∧ leH h [] ∧ r = strings_TrimLeft.res a0 a1 y ∧ h1 = strings_TrimLeft.out a0 a1 y
theorem strings_TrimLeft.call {ar : List AV} {h : List (Option LB)} {a0 : ByteArray} {a1 : ByteArray} {y : ByteArray} (H : strings_TrimLeft a0 a1 = some y) (h0 : leLk ar [(.v (.string a0)), (.v (.string a1))] (leHk h [])) : strings_TrimLeft.S ar h (strings_TrimLeft.res a0 a1 y) (strings_TrimLeft.out a0 a1 y) := ⟨a0, a1, y, H, (args_ok h0).1, (args_ok h0).2, rfl, rfl⟩
theorem strings_TrimLeft.spec (a0 : ByteArray) (a1 : ByteArray) (y : ByteArray) (H : strings_TrimLeft a0 a1 = some y) : Spec Tryz.prog 53 [(.v (.string a0)), (.v (.string a1))] [] (strings_TrimLeft.res a0 a1 y) (strings_TrimLeft.out a0 a1 y) := by
  have hg := grd_p H
  have H := Option.some.inj (grd_k H)
  subst H
  exact ext_strings_TrimLeft a0 a1 hg
def G31 : Env := G30.add 53 [] strings_TrimLeft.S
theorem G31_ok : EnvOk Tryz.prog G31 := G30_ok.add ent_53 fun ar h r h1 ⟨a0, a1, y, hy, e1, e2, e3, e4⟩ => by
  subst e3 e4; exact (strings_TrimLeft.spec a0 a1 y hy).le e1 e2
attribute [local irreducible] strings_TrimLeft

noncomputable def impl_ParseInt (a0 : ByteArray) : Option (Int × Bool) :=
  (some (((parseI a0).1), ((parseI a0).2)))
def impl_ParseInt.res (_ : ByteArray) (y : Int × Bool) : AV := (.tup [(.v (.int .i64 y.1)), (.bl y.2)])
def impl_ParseInt.out (_ : ByteArray) (_ : Int × Bool) : List (Option LB) := []
def impl_ParseInt.S (ar : List AV) (h : List (Option LB)) (r : AV) (h1 : List (Option LB)) : Prop := ∃ a0 y, impl_ParseInt a0 = some y ∧ leL ar [(.v (.string a0))] ∧ leH h [] ∧ r = impl_ParseInt.res a0 y ∧ h1 = impl_ParseInt.out a0 y
theorem impl_ParseInt.call {ar : List AV} {h : List (Option LB)} {a0 : ByteArray} {y : Int × Bool} (H : impl_ParseInt a0 = some y) (h0 : leLk ar [(.v (.string a0))] (leHk h [])) : impl_ParseInt.S ar h (impl_ParseInt.res a0 y) (impl_ParseInt.out a0 y) := ⟨a0, y, H, (args_ok h0).1, (args_ok h0).2, rfl, rfl⟩
theorem impl_ParseInt.spec (a0 : ByteArray) (y : Int × Bool) (H : impl_ParseInt a0 = some y) : Spec Tryz.prog 29 [(.v (.string a0))] [] (impl_ParseInt.res a0 y) (impl_ParseInt.out a0 y) := by
  have H := Option.some.inj H
  subst H
  exact ext_impl_ParseInt a0
def G32 : Env := G31.add 29 [] impl_ParseInt.S
theorem G32_ok : EnvOk Tryz.prog G32 := G31_ok.add ent_29 fun ar h r h1 ⟨a0, y, hy, e1, e2, e3, e4⟩ => by
  subst e3 e4; exact (impl_ParseInt.spec a0 y hy).le e1 e2
attribute [local irreducible] impl_ParseInt

noncomputable def strings_HasPrefix (a0 : ByteArray) (a1 : ByteArray) : Option (Bool) :=
  ((internal_stringslite_HasPrefix a0 a1).bind fun y1 => (some y1))
def strings_HasPrefix.res (_ : ByteArray) (_ : ByteArray) (y : Bool) : AV := (.bl y)
def strings_HasPrefix.out (_ : ByteArray) (_ : ByteArray) (_ : Bool) : List (Option LB) := []
def strings_HasPrefix.S (ar : List AV) (h : List (Option LB)) (r : AV) (h1 : List (Option LB)) : Prop := ∃ a0 a1 y, strings_HasPrefix a0 a1 = some y ∧ leL ar [(.v (.string a0)), (.v (.string a1))] ∧ leH h [] ∧ r = strings_HasPrefix.res a0 a1 y ∧ h1 = strings_HasPrefix.out a0 a1 y
theorem strings_HasPrefix.call {ar : List AV} {h : List (Option LB)} {a0 : ByteArray} {a1 : ByteArray} {y : Bool} (H : strings_HasPrefix a0 a1 = some y) (h0 : leLk ar [(.v (.string a0)), (.v (.string a1))] (leHk h [])) : strings_HasPrefix.S ar h (strings_HasPrefix.res a0 a1 y) (strings_HasPrefix.out a0 a1 y) := ⟨a0, a1, y, H, (args_ok h0).1, (args_ok h0).2, rfl, rfl⟩
set_option maxHeartbeats 100000000 in
set_option maxRecDepth 100000 in
theorem strings_HasPrefix.spec (a0 : ByteArray) (a1 : ByteArray) (y : Bool) (H : strings_HasPrefix a0 a1 = some y) : Spec Tryz.prog 56 [(.v (.string a0)), (.v (.string a1))] [] (strings_HasPrefix.res a0 a1 y) (strings_HasPrefix.out a0 a1 y) := by
  refine spec_intro (G32_ok.at tok []) (ct := []) Tryz.func56 rfl (by kernel_rfl) (by kernel_rfl) rfl ?_
  repeat' first
    | ((with_reducible refine eqg ?_); exact rfl)
    | ((with_reducible refine KOb.mk ?_); kernel_rfl)
    | ((with_reducible intro h); (repeat (first | replace H := grd_k H | replace H := out_step H (by assumption))); first | replace H := cond_t h H | replace H := cond_f h H | exact absurd h (by decide) | skip)
    | ((with_reducible refine Ob.mk ?_); first | (with_reducible rfl) | (first | ((repeat (first | (with_reducible exact grd_p H) | (replace H := grd_k H) | (replace H := out_step H (by assumption)))); done) | rfl | ((repeat (first | exact grd_p H | replace H := grd_k H | replace H := out_step H (by assumption))); done) | ((repeat (first | exact grd_p H | (have hp := grd_p H; exact hp) | replace H := grd_k H | replace H := out_step H (by assumption) | (replace H := bind_some H; obtain ⟨_, _, H⟩ := H))); done) | (repeat (first | exact grd_p H | replace H := grd_k H | replace H := out_step H (by assumption)))))
    | (with_reducible exact True.intro)
    | ((conv => whnf); first
        | (with_reducible refine And.intro ?_ ?_)
        | (with_reducible exact True.intro)
        | ((with_reducible refine Ob.mk ?_); first | (with_reducible rfl) | (first | ((repeat (first | (with_reducible exact grd_p H) | (replace H := grd_k H) | (replace H := out_step H (by assumption)))); done) | rfl | ((repeat (first | exact grd_p H | replace H := grd_k H | replace H := out_step H (by assumption))); done) | ((repeat (first | exact grd_p H | (have hp := grd_p H; exact hp) | replace H := grd_k H | replace H := out_step H (by assumption) | (replace H := bind_some H; obtain ⟨_, _, H⟩ := H))); done) | (repeat (first | exact grd_p H | replace H := grd_k H | replace H := out_step H (by assumption)))))
        | ((with_reducible refine CallW.mk ?_); (repeat (first | replace H := grd_k H | replace H := out_step H (by assumption))); replace H := bind_some H; obtain ⟨y, hy, H⟩ := H; first | ((with_reducible have hz : internal_stringslite_HasPrefix _ _ = some y := hy); clear hz; refine Exists.intro _ (Exists.intro _ ⟨internal_stringslite_HasPrefix.call hy ?_, rfl, rfl, ?_⟩)))
        | ((with_reducible refine fin_mk ?_); (repeat (first | replace H := grd_k H | replace H := out_step H (by assumption))); have H := Option.some.inj H; subst H))
    | constructor
def G33 : Env := G32.add 56 [] strings_HasPrefix.S
theorem G33_ok : EnvOk Tryz.prog G33 := G32_ok.add ent_56 fun ar h r h1 ⟨a0, a1, y, hy, e1, e2, e3, e4⟩ => by
  subst e3 e4; exact (strings_HasPrefix.spec a0 a1 y hy).le e1 e2
attribute [local irreducible] strings_HasPrefix

noncomputable def impl_readTenths (a0 : ByteArray) : Option (Int) :=
  ((strings_TrimPrefix a0 (ByteArray.mk #[45])).bind fun y1 => ((strings_Replace y1 (ByteArray.mk #[46]) (ByteArray.mk #[]) (1 : Int)).bind fun y2 => ((strings_TrimLeft y2 (ByteArray.mk #[48])).bind fun y3 => ((impl_ParseInt y3).bind fun y4 => ((strings_HasPrefix a0 (ByteArray.mk #[45])).bind fun y5 => (cond y5 ((some (w64 (0 - y4.1)))) ((some y4.1))))))))
def impl_readTenths.res (_ : ByteArray) (y : Int) : AV := (.v (.int .i64 y))
def impl_readTenths.out (_ : ByteArray) (_ : Int) : List (Option LB) := []
def impl_readTenths.S (ar : List AV) (h : List (Option LB)) (r : AV) (h1 : List (Option LB)) : Prop := ∃ a0 y, impl_readTenths a0 = some y ∧ leL ar [(.v (.string a0))] ∧ leH h [] ∧ r = impl_readTenths.res a0 y ∧ h1 = impl_readTenths.out a0 y
theorem impl_readTenths.call {ar : List AV} {h : List (Option LB)} {a0 : ByteArray} {y : Int} (H : impl_readTenths a0 = some y) (h0 : leLk ar [(.v (.string a0))] (leHk h [])) : impl_readTenths.S ar h (impl_readTenths.res a0 y) (impl_readTenths.out a0 y) := ⟨a0, y, H, (args_ok h0).1, (args_ok h0).2, rfl, rfl⟩
set_option maxHeartbeats 100000000 in
set_option maxRecDepth 100000 in
theorem impl_readTenths.spec (a0 : ByteArray) (y : Int) (H : impl_readTenths a0 = some y) : Spec Tryz.prog 27 [(.v (.string a0))] [] (impl_readTenths.res a0 y) (impl_readTenths.out a0 y) := by
  refine spec_intro (G33_ok.at tok []) (ct := [(4, some [3])]) Tryz.func27 rfl (by kernel_rfl) (by kernel_rfl) rfl ?_
  repeat' first
    | ((with_reducible refine eqg ?_); exact rfl)
    | ((with_reducible refine KOb.mk ?_); kernel_rfl)
    | ((with_reducible intro h); (repeat (first | replace H := grd_k H | replace H := out_step H (by assumption))); first | replace H := cond_t h H | replace H := cond_f h H | exact absurd h (by decide) | skip)
    | ((with_reducible refine Ob.mk ?_); first | (with_reducible rfl) | (first | ((repeat (first | (with_reducible exact grd_p H) | (replace H := grd_k H) | (replace H := out_step H (by assumption)))); done) | rfl | ((repeat (first | exact grd_p H | replace H := grd_k H | replace H := out_step H (by assumption))); done) | ((repeat (first | exact grd_p H | (have hp := grd_p H; exact hp) | replace H := grd_k H | replace H := out_step H (by assumption) | (replace H := bind_some H; obtain ⟨_, _, H⟩ := H))); done) | (repeat (first | exact grd_p H | replace H := grd_k H | replace H := out_step H (by assumption)))))
    | (with_reducible exact True.intro)
    | ((conv => whnf); first
        | (with_reducible refine And.intro ?_ ?_)
        | (with_reducible exact True.intro)
        | ((with_reducible refine Ob.mk ?_); first | (with_reducible rfl) | (first | ((repeat (first | (with_reducible exact grd_p H) | (replace H := grd_k H) | (replace H := out_step H (by assumption)))); done) | rfl | ((repeat (first | exact grd_p H | replace H := grd_k H | replace H := out_step H (by assumption))); done) | ((repeat (first | exact grd_p H | (have hp := grd_p H; exact hp) | replace H := grd_k H | replace H := out_step H (by assumption) | (replace H := bind_some H; obtain ⟨_, _, H⟩ := H))); done) | (repeat (first | exact grd_p H | replace H := grd_k H | replace H := out_step H (by assumption)))))
        | ((with_reducible refine CallW.mk ?_); (repeat (first | replace H := grd_k H | replace H := out_step H (by assumption))); replace H := bind_some H; obtain ⟨y, hy, H⟩ := H; first | ((with_reducible have hz : strings_TrimPrefix _ _ = some y := hy); clear hz; refine Exists.intro _ (Exists.intro _ ⟨strings_TrimPrefix.call hy ?_, rfl, rfl, ?_⟩)) | ((with_reducible have hz : strings_Replace _ _ _ _ = some y := hy); clear hz; refine Exists.intro _ (Exists.intro _ ⟨strings_Replace.call hy ?_, rfl, rfl, ?_⟩)) | ((with_reducible have hz : strings_TrimLeft _ _ = some y := hy); clear hz; refine Exists.intro _ (Exists.intro _ ⟨strings_TrimLeft.call hy ?_, rfl, rfl, ?_⟩)) | ((with_reducible have hz : impl_ParseInt _ = some y := hy); clear hz; refine Exists.intro _ (Exists.intro _ ⟨impl_ParseInt.call hy ?_, rfl, rfl, ?_⟩)) | ((with_reducible have hz : strings_HasPrefix _ _ = some y := hy); clear hz; refine Exists.intro _ (Exists.intro _ ⟨strings_HasPrefix.call hy ?_, rfl, rfl, ?_⟩)))
        | ((with_reducible refine fin_mk ?_); (repeat (first | replace H := grd_k H | replace H := out_step H (by assumption))); have H := Option.some.inj H; subst H))
    | constructor
def G34 : Env := G33.add 27 [] impl_readTenths.S
theorem G34_ok : EnvOk Tryz.prog G34 := G33_ok.add ent_27 fun ar h r h1 ⟨a0, y, hy, e1, e2, e3, e4⟩ => by
  subst e3 e4; exact (impl_readTenths.spec a0 y hy).le e1 e2
attribute [local irreducible] impl_readTenths

noncomputable def internal_stringslite_HasSuffix (a0 : ByteArray) (a1 : ByteArray) : Option (Bool) :=
  (cond (decide ((a1.size : Int) ≤ (a0.size : Int))) (grd (0 ≤ (w64 ((a0.size : Int) - (a1.size : Int))) ∧ (w64 ((a0.size : Int) - (a1.size : Int))) ≤ (a0.size : Int) ∧ (a0.size : Int) ≤ (a0.size : Int)) ((some (decide ((bsub a0 (w64 ((a0.size : Int) - (a1.size : Int))) (a0.size : Int)) = a1))))) ((some false)))
def internal_stringslite_HasSuffix.res (_ : ByteArray) (_ : ByteArray) (y : Bool) : AV := (.bl y)
def internal_stringslite_HasSuffix.out (_ : ByteArray) (_ : ByteArray) (_ : Bool) : List (Option LB) := []
def internal_stringslite_HasSuffix.S (ar : List AV) (h : List (Option LB)) (r : AV) (h1 : List (Option LB)) : Prop := ∃ a0 a1 y, internal_stringslite_HasSuffix a0 a1 = some y ∧ leL ar [(.v (.string a0)), (.v (.string a1))] ∧ leH h [] ∧ r = internal_stringslite_HasSuffix.res a0 a1 y ∧ h1 = internal_stringslite_HasSuffix.out a0 a1 y
theorem internal_stringslite_HasSuffix.call {ar : List AV} {h : List (Option LB)} {a0 : ByteArray} {a1 : ByteArray} {y : Bool} (H : internal_stringslite_HasSuffix a0 a1 = some y) (h0 : leLk ar [(.v (.string a0)), (.v (.string a1))] (leHk h [])) : internal_stringslite_HasSuffix.S ar h (internal_stringslite_HasSuffix.res a0 a1 y) (internal_stringslite_HasSuffix.out a0 a1 y) := ⟨a0, a1, y, H, (args_ok h0).1, (args_ok h0).2, rfl, rfl⟩
set_option maxHeartbeats 100000000 in
set_option maxRecDepth 100000 in
theorem internal_stringslite_HasSuffix.spec (a0 : ByteArray) (a1 : ByteArray) (y : Bool) (H : internal_stringslite_HasSuffix a0 a1 = some y) : Spec Tryz.prog 75 [(.v (.string a0)), (.v (.string a1))] [] (internal_stringslite_HasSuffix.res a0 a1 y) (internal_stringslite_HasSuffix.out a0 a1 y) := by
  refine spec_intro (G34_ok.at tok []) (ct := []) Tryz.func75 rfl (by kernel_rfl) (by kernel_rfl) rfl ?_
  repeat' first
    | ((with_reducible refine eqg ?_); exact rfl)
    | ((with_reducible refine KOb.mk ?_); kernel_rfl)
    | ((with_reducible intro h); (repeat (first | replace H := grd_k H | replace H := out_step H (by assumption))); first | replace H := cond_t h H | replace H := cond_f h H | exact absurd h (by decide) | skip)
    | ((with_reducible refine Ob.mk ?_); first | (with_reducible rfl) | (first | ((repeat (first | (with_reducible exact grd_p H) | (replace H := grd_k H) | (replace H := out_step H (by assumption)))); done) | rfl | ((repeat (first | exact grd_p H | replace H := grd_k H | replace H := out_step H (by assumption))); done) | ((repeat (first | exact grd_p H | (have hp := grd_p H; exact hp) | replace H := grd_k H | replace H := out_step H (by assumption) | (replace H := bind_some H; obtain ⟨_, _, H⟩ := H))); done) | (repeat (first | exact grd_p H | replace H := grd_k H | replace H := out_step H (by assumption)))))
    | (with_reducible exact True.intro)
    | ((conv => whnf); first
        | (with_reducible refine And.intro ?_ ?_)
        | (with_reducible exact True.intro)
        | ((with_reducible refine Ob.mk ?_); first | (with_reducible rfl) | (first | ((repeat (first | (with_reducible exact grd_p H) | (replace H := grd_k H) | (replace H := out_step H (by assumption)))); done) | rfl | ((repeat (first | exact grd_p H | replace H := grd_k H | replace H := out_step H (by assumption))); done) | ((repeat (first | exact grd_p H | (have hp := grd_p H; exact hp) | replace H := grd_k H | replace H := out_step H (by assumption) | (replace H := bind_some H; obtain ⟨_, _, H⟩ := H))); done) | (repeat (first | exact grd_p H | replace H := grd_k H | replace H := out_step H (by assumption)))))
        | ((with_reducible refine fin_mk ?_); (repeat (first | replace H := grd_k H | replace H := out_step H (by assumption))); have H := Option.some.inj H; subst H))
    | constructor
def G35 : Env := G34.add 75 [] internal_stringslite_HasSuffix.S
theorem G35_ok : EnvOk Tryz.prog G35 := G34_ok.add ent_75 fun ar h r h1 ⟨a0, a1, y, hy, e1, e2, e3, e4⟩ => by
  subst e3 e4; exact (internal_stringslite_HasSuffix.spec a0 a1 y hy).le e1 e2
attribute [local irreducible] internal_stringslite_HasSuffix

end Go.Proofs.YtaajchikfgbecaaGreatDoor
