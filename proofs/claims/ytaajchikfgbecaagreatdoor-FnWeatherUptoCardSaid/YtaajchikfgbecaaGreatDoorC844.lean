/-
  Contracts, printed by a program.
-/
import Derived.Test.YtaajchikfgbecaaGreatDoorC843
namespace Go.Proofs.YtaajchikfgbecaaGreatDoor
open Go.RowKit
attribute [local irreducible] Ob loopwp Sub Spec Fin Again CallW CutC KOb iter joinx outm

attribute [local irreducible] laws_rBig spec_l1Cur_next spec_l1Cur_pick spec_l1Cur_among spec_l1Cur_one spec_l1Cur_weather spec_DrawIsWeather spec_DrawWeatherText impl_within impl_IsWeather strconv_Itoa impl_distance impl_tenths impl_weatherText impl_WeatherText spec_l1In spec_l17Minute spec_l17Wind spec_l17Way spec_l17One spec_l1Num spec_l1Num_f

noncomputable def spec_l17Tenths_f : Nat → Int → Option (ByteArray)
  | 0, _ => none
  | k + 1, a0 => (cond (decide (a0 < (0 : Int))) ((spec_l17Tenths_f k (w64 (0 - a0))).bind fun y1 => (grd ((ByteArray.mk #[45]).size + y1.size ≤ 9223372036854775807) ((some ((ByteArray.mk #[45]) ++ y1))))) (grd ((10 : Int) ≠ 0) ((spec_l1Num (w64 (Int.tdiv a0 (10 : Int)))).bind fun y2 => (grd (y2.size + (ByteArray.mk #[46]).size ≤ 9223372036854775807) (grd ((10 : Int) ≠ 0) ((spec_l1Num (Int.tmod a0 (10 : Int))).bind fun y3 => (grd ((y2 ++ (ByteArray.mk #[46])).size + y3.size ≤ 9223372036854775807) ((some ((y2 ++ (ByteArray.mk #[46])) ++ y3))))))))))
theorem spec_l17Tenths_f_succ (k : Nat) (a0 : Int) : spec_l17Tenths_f (k + 1) a0 = (cond (decide (a0 < (0 : Int))) ((spec_l17Tenths_f k (w64 (0 - a0))).bind fun y1 => (grd ((ByteArray.mk #[45]).size + y1.size ≤ 9223372036854775807) ((some ((ByteArray.mk #[45]) ++ y1))))) (grd ((10 : Int) ≠ 0) ((spec_l1Num (w64 (Int.tdiv a0 (10 : Int)))).bind fun y2 => (grd (y2.size + (ByteArray.mk #[46]).size ≤ 9223372036854775807) (grd ((10 : Int) ≠ 0) ((spec_l1Num (Int.tmod a0 (10 : Int))).bind fun y3 => (grd ((y2 ++ (ByteArray.mk #[46])).size + y3.size ≤ 9223372036854775807) ((some ((y2 ++ (ByteArray.mk #[46])) ++ y3)))))))))) := rfl
attribute [local irreducible] spec_l17Tenths_f
noncomputable def spec_l17Tenths (a0 : Int) : Option (ByteArray) := spec_l17Tenths_f 64 a0
def spec_l17Tenths.res (_ : Int) (y : ByteArray) : AV := (.v (.string y))
def spec_l17Tenths.out (_ : Int) (_ : ByteArray) : List (Option LB) := []
def spec_l17Tenths.S (ar : List AV) (h : List (Option LB)) (r : AV) (h1 : List (Option LB)) : Prop := ∃ a0 y, spec_l17Tenths a0 = some y ∧ leL ar [(.v (.int .i64 a0))] ∧ leH h [] ∧ r = spec_l17Tenths.res a0 y ∧ h1 = spec_l17Tenths.out a0 y
theorem spec_l17Tenths.call {ar : List AV} {h : List (Option LB)} {a0 : Int} {y : ByteArray} (H : spec_l17Tenths a0 = some y) (h0 : leLk ar [(.v (.int .i64 a0))] (leHk h [])) : spec_l17Tenths.S ar h (spec_l17Tenths.res a0 y) (spec_l17Tenths.out a0 y) := ⟨a0, y, H, (args_ok h0).1, (args_ok h0).2, rfl, rfl⟩
def spec_l17Tenths_f.S (k : Nat) (ar : List AV) (h : List (Option LB)) (r : AV) (h1 : List (Option LB)) : Prop := ∃ a0 y, spec_l17Tenths_f k a0 = some y ∧ leL ar [(.v (.int .i64 a0))] ∧ leH h [] ∧ r = spec_l17Tenths.res a0 y ∧ h1 = spec_l17Tenths.out a0 y
theorem spec_l17Tenths_f.call {k : Nat} {ar : List AV} {h : List (Option LB)} {a0 : Int} {y : ByteArray} (H : spec_l17Tenths_f k a0 = some y) (h0 : leLk ar [(.v (.int .i64 a0))] (leHk h [])) : spec_l17Tenths_f.S k ar h (spec_l17Tenths.res a0 y) (spec_l17Tenths.out a0 y) := ⟨a0, y, H, (args_ok h0).1, (args_ok h0).2, rfl, rfl⟩
set_option maxHeartbeats 100000000 in
set_option maxRecDepth 100000 in
theorem spec_l17Tenths_f.spec (k : Nat) : ∀ (a0 : Int) (y : ByteArray) (_ : spec_l17Tenths_f k a0 = some y), Spec Tryz.prog 50 [(.v (.int .i64 a0))] [] (spec_l17Tenths.res a0 y) (spec_l17Tenths.out a0 y) := by
  induction k with
  | zero => intro a0 y H; unfold spec_l17Tenths_f at H; cases H
  | succ k IH =>
  intro a0 y H
  have H := (spec_l17Tenths_f_succ k a0).symm.trans H
  have hG : EnvOk Tryz.prog (G21.add 50 [] (spec_l17Tenths_f.S k)) := G21_ok.add ent_50 fun ar h r h1 ⟨a0, y, hy, e1, e2, e3, e4⟩ => by
    subst e3 e4; exact (IH a0 y hy).le e1 e2
  clear IH
  refine spec_intro (hG.at tok []) (ct := []) Tryz.func50 rfl (by kernel_rfl) (by kernel_rfl) rfl ?_
  repeat' first
    | ((with_reducible refine eqg ?_); exact rfl)
    | ((with_reducible refine KOb.mk ?_); kernel_rfl)
    | ((with_reducible intro h); (repeat (first | replace H := grd_k H | replace H := out_step H (by assumption))); first | replace H := cond_t h H | replace H := cond_f h H | exact absurd h (by decide) | skip)
    | ((with_reducible refine Ob.mk ?_); first | (with_reducible rfl) | (first | ((repeat (first | (with_reducible exact grd_p H) | (replace H := grd_k H) | (replace H := out_step H (by assumption)))); done) | rfl | ((repeat (first | exact grd_p H | replace H := grd_k H | replace H := out_step H (by assumption))); done) | ((repeat (first | exact grd_p H | (have hp := grd_p H; exact hp) | replace H := grd_k H | replace H := out_step H (by assumption) | (replace H := bind_some H; obtain ⟨_, _, H⟩ := H))); done) | (repeat (first | exact grd_p H | replace H := grd_k H | replace H := out_step H (by assumption)))))
    | (with_reducible exact True.intro)
    | ((conv => whnf); first
        | (with_reducible refine And.intro ?_ ?_)
        | (with_reducible exact True.intro)
        | ((with_reducible refine Ob.mk ?_); first | (with_reducible rfl) | (first | ((repeat (first | (with_reducible exact grd_p H) | (replace H := grd_k H) | (replace H := out_step H (by assumption)))); done) | rfl | ((repeat (first | exact grd_p H | replace H := grd_k H | replace H := out_step H (by assumption))); done) | ((repeat (first | exact grd_p H | (have hp := grd_p H; exact hp) | replace H := grd_k H | replace H := out_step H (by assumption) | (replace H := bind_some H; obtain ⟨_, _, H⟩ := H))); done) | (repeat (first | exact grd_p H | replace H := grd_k H | replace H := out_step H (by assumption)))))
        | ((with_reducible refine CallW.mk ?_); (repeat (first | replace H := grd_k H | replace H := out_step H (by assumption))); replace H := bind_some H; obtain ⟨y, hy, H⟩ := H; first | ((with_reducible have hz : spec_l17Tenths_f k _ = some y := hy); clear hz; refine Exists.intro _ (Exists.intro _ ⟨spec_l17Tenths_f.call hy ?_, rfl, rfl, ?_⟩)) | ((with_reducible have hz : spec_l1Num _ = some y := hy); clear hz; refine Exists.intro _ (Exists.intro _ ⟨spec_l1Num.call hy ?_, rfl, rfl, ?_⟩)))
        | ((with_reducible refine fin_mk ?_); (repeat (first | replace H := grd_k H | replace H := out_step H (by assumption))); have H := Option.some.inj H; subst H))
    | constructor
theorem spec_l17Tenths.spec (a0 : Int) (y : ByteArray) (H : spec_l17Tenths a0 = some y) : Spec Tryz.prog 50 [(.v (.int .i64 a0))] [] (spec_l17Tenths.res a0 y) (spec_l17Tenths.out a0 y) := spec_l17Tenths_f.spec 64 a0 y H
def G22 : Env := G21.add 50 [] spec_l17Tenths.S
theorem G22_ok : EnvOk Tryz.prog G22 := G21_ok.add ent_50 fun ar h r h1 ⟨a0, y, hy, e1, e2, e3, e4⟩ => by
  subst e3 e4; exact (spec_l17Tenths.spec a0 y hy).le e1 e2
attribute [local irreducible] spec_l17Tenths

noncomputable def spec_l17Text (a0 : Weather) : Option (ByteArray) :=
  ((spec_l1Num a0.1).bind fun y1 => (grd (y1.size + (ByteArray.mk #[58, 32]).size ≤ 9223372036854775807) ((spec_l17Tenths a0.2.1).bind fun y2 => (grd ((y1 ++ (ByteArray.mk #[58, 32])).size + y2.size ≤ 9223372036854775807) (grd (((y1 ++ (ByteArray.mk #[58, 32])) ++ y2).size + (ByteArray.mk #[32, 109, 47, 115, 32, 102, 114, 111, 109, 32]).size ≤ 9223372036854775807) ((spec_l1Num a0.2.2.1).bind fun y3 => (grd ((((y1 ++ (ByteArray.mk #[58, 32])) ++ y2) ++ (ByteArray.mk #[32, 109, 47, 115, 32, 102, 114, 111, 109, 32])).size + y3.size ≤ 9223372036854775807) (grd (((((y1 ++ (ByteArray.mk #[58, 32])) ++ y2) ++ (ByteArray.mk #[32, 109, 47, 115, 32, 102, 114, 111, 109, 32])) ++ y3).size + (ByteArray.mk #[44, 32]).size ≤ 9223372036854775807) ((spec_l17Tenths a0.2.2.2.1).bind fun y4 => (grd ((((((y1 ++ (ByteArray.mk #[58, 32])) ++ y2) ++ (ByteArray.mk #[32, 109, 47, 115, 32, 102, 114, 111, 109, 32])) ++ y3) ++ (ByteArray.mk #[44, 32])).size + y4.size ≤ 9223372036854775807) (grd (((((((y1 ++ (ByteArray.mk #[58, 32])) ++ y2) ++ (ByteArray.mk #[32, 109, 47, 115, 32, 102, 114, 111, 109, 32])) ++ y3) ++ (ByteArray.mk #[44, 32])) ++ y4).size + (ByteArray.mk #[32, 67]).size ≤ 9223372036854775807) (cond a0.2.2.2.2.1 (grd ((((((((y1 ++ (ByteArray.mk #[58, 32])) ++ y2) ++ (ByteArray.mk #[32, 109, 47, 115, 32, 102, 114, 111, 109, 32])) ++ y3) ++ (ByteArray.mk #[44, 32])) ++ y4) ++ (ByteArray.mk #[32, 67])).size + (ByteArray.mk #[44, 32, 115, 116, 111, 114, 109]).size ≤ 9223372036854775807) ((some ((((((((y1 ++ (ByteArray.mk #[58, 32])) ++ y2) ++ (ByteArray.mk #[32, 109, 47, 115, 32, 102, 114, 111, 109, 32])) ++ y3) ++ (ByteArray.mk #[44, 32])) ++ y4) ++ (ByteArray.mk #[32, 67])) ++ (ByteArray.mk #[44, 32, 115, 116, 111, 114, 109]))))) ((some (((((((y1 ++ (ByteArray.mk #[58, 32])) ++ y2) ++ (ByteArray.mk #[32, 109, 47, 115, 32, 102, 114, 111, 109, 32])) ++ y3) ++ (ByteArray.mk #[44, 32])) ++ y4) ++ (ByteArray.mk #[32, 67]))))))))))))))))
def spec_l17Text.res (_ : Weather) (y : ByteArray) : AV := (.v (.string y))
def spec_l17Text.out (_ : Weather) (_ : ByteArray) : List (Option LB) := []
def spec_l17Text.S (ar : List AV) (h : List (Option LB)) (r : AV) (h1 : List (Option LB)) : Prop := ∃ a0 y, spec_l17Text a0 = some y ∧ leL ar [(.agg [(.v (.int .i64 a0.1)), (.v (.int .i64 a0.2.1)), (.v (.int .i64 a0.2.2.1)), (.v (.int .i64 a0.2.2.2.1)), (.bl a0.2.2.2.2.1)])] ∧ leH h [] ∧ r = spec_l17Text.res a0 y ∧ h1 = spec_l17Text.out a0 y
theorem spec_l17Text.call {ar : List AV} {h : List (Option LB)} {a0 : Weather} {y : ByteArray} (H : spec_l17Text a0 = some y) (h0 : leLk ar [(.agg [(.v (.int .i64 a0.1)), (.v (.int .i64 a0.2.1)), (.v (.int .i64 a0.2.2.1)), (.v (.int .i64 a0.2.2.2.1)), (.bl a0.2.2.2.2.1)])] (leHk h [])) : spec_l17Text.S ar h (spec_l17Text.res a0 y) (spec_l17Text.out a0 y) := ⟨a0, y, H, (args_ok h0).1, (args_ok h0).2, rfl, rfl⟩
set_option maxHeartbeats 100000000 in
set_option maxRecDepth 100000 in
theorem spec_l17Text.spec (a0 : Weather) (y : ByteArray) (H : spec_l17Text a0 = some y) : Spec Tryz.prog 23 [(.agg [(.v (.int .i64 a0.1)), (.v (.int .i64 a0.2.1)), (.v (.int .i64 a0.2.2.1)), (.v (.int .i64 a0.2.2.2.1)), (.bl a0.2.2.2.2.1)])] [] (spec_l17Text.res a0 y) (spec_l17Text.out a0 y) := by
  refine spec_intro (G22_ok.at tok []) (ct := [(2, some [1, 3])]) Tryz.func23 rfl (by kernel_rfl) (by kernel_rfl) rfl ?_
  repeat' first
    | ((with_reducible refine eqg ?_); exact rfl)
    | ((with_reducible refine KOb.mk ?_); kernel_rfl)
    | ((with_reducible intro h); (repeat (first | replace H := grd_k H | replace H := out_step H (by assumption))); first | replace H := cond_t h H | replace H := cond_f h H | exact absurd h (by decide) | skip)
    | ((with_reducible refine Ob.mk ?_); first | (with_reducible rfl) | (first | ((repeat (first | (with_reducible exact grd_p H) | (replace H := grd_k H) | (replace H := out_step H (by assumption)))); done) | rfl | ((repeat (first | exact grd_p H | replace H := grd_k H | replace H := out_step H (by assumption))); done) | ((repeat (first | exact grd_p H | (have hp := grd_p H; exact hp) | replace H := grd_k H | replace H := out_step H (by assumption) | (replace H := bind_some H; obtain ⟨_, _, H⟩ := H))); done) | (repeat (first | exact grd_p H | replace H := grd_k H | replace H := out_step H (by assumption)))))
    | (with_reducible exact True.intro)
    | ((conv => whnf); first
        | (with_reducible refine And.intro ?_ ?_)
        | (with_reducible exact True.intro)
        | ((with_reducible refine Ob.mk ?_); first | (with_reducible rfl) | (first | ((repeat (first | (with_reducible exact grd_p H) | (replace H := grd_k H) | (replace H := out_step H (by assumption)))); done) | rfl | ((repeat (first | exact grd_p H | replace H := grd_k H | replace H := out_step H (by assumption))); done) | ((repeat (first | exact grd_p H | (have hp := grd_p H; exact hp) | replace H := grd_k H | replace H := out_step H (by assumption) | (replace H := bind_some H; obtain ⟨_, _, H⟩ := H))); done) | (repeat (first | exact grd_p H | replace H := grd_k H | replace H := out_step H (by assumption)))))
        | ((with_reducible refine CallW.mk ?_); (repeat (first | replace H := grd_k H | replace H := out_step H (by assumption))); replace H := bind_some H; obtain ⟨y, hy, H⟩ := H; first | ((with_reducible have hz : spec_l1Num _ = some y := hy); clear hz; refine Exists.intro _ (Exists.intro _ ⟨spec_l1Num.call hy ?_, rfl, rfl, ?_⟩)) | ((with_reducible have hz : spec_l17Tenths _ = some y := hy); clear hz; refine Exists.intro _ (Exists.intro _ ⟨spec_l17Tenths.call hy ?_, rfl, rfl, ?_⟩)))
        | ((with_reducible refine fin_mk ?_); (repeat (first | replace H := grd_k H | replace H := out_step H (by assumption))); have H := Option.some.inj H; subst H))
    | constructor
def G23 : Env := G22.add 23 [] spec_l17Text.S
theorem G23_ok : EnvOk Tryz.prog G23 := G22_ok.add ent_23 fun ar h r h1 ⟨a0, y, hy, e1, e2, e3, e4⟩ => by
  subst e3 e4; exact (spec_l17Text.spec a0 y hy).le e1 e2
attribute [local irreducible] spec_l17Text

noncomputable def spec_WeatherText (a0 : Weather) : Option (ByteArray × Bool) :=
  ((spec_l17One (a0.1, a0.2.1, a0.2.2.1, a0.2.2.2.1, a0.2.2.2.2.1, ())).bind fun y1 => (cond (!y1) ((some ((ByteArray.mk #[]), false))) ((spec_l17Text (a0.1, a0.2.1, a0.2.2.1, a0.2.2.2.1, a0.2.2.2.2.1, ())).bind fun y2 => (some (y2, true)))))
def spec_WeatherText.res (_ : Weather) (y : ByteArray × Bool) : AV := (.tup [(.v (.string y.1)), (.bl y.2)])
def spec_WeatherText.out (_ : Weather) (_ : ByteArray × Bool) : List (Option LB) := []
def spec_WeatherText.S (ar : List AV) (h : List (Option LB)) (r : AV) (h1 : List (Option LB)) : Prop := ∃ a0 y, spec_WeatherText a0 = some y ∧ leL ar [(.agg [(.v (.int .i64 a0.1)), (.v (.int .i64 a0.2.1)), (.v (.int .i64 a0.2.2.1)), (.v (.int .i64 a0.2.2.2.1)), (.bl a0.2.2.2.2.1)])] ∧ leH h [] ∧ r = spec_WeatherText.res a0 y ∧ h1 = spec_WeatherText.out a0 y
theorem spec_WeatherText.call {ar : List AV} {h : List (Option LB)} {a0 : Weather} {y : ByteArray × Bool} (H : spec_WeatherText a0 = some y) (h0 : leLk ar [(.agg [(.v (.int .i64 a0.1)), (.v (.int .i64 a0.2.1)), (.v (.int .i64 a0.2.2.1)), (.v (.int .i64 a0.2.2.2.1)), (.bl a0.2.2.2.2.1)])] (leHk h [])) : spec_WeatherText.S ar h (spec_WeatherText.res a0 y) (spec_WeatherText.out a0 y) := ⟨a0, y, H, (args_ok h0).1, (args_ok h0).2, rfl, rfl⟩
set_option maxHeartbeats 100000000 in
set_option maxRecDepth 100000 in
theorem spec_WeatherText.spec (a0 : Weather) (y : ByteArray × Bool) (H : spec_WeatherText a0 = some y) : Spec Tryz.prog 7 [(.agg [(.v (.int .i64 a0.1)), (.v (.int .i64 a0.2.1)), (.v (.int .i64 a0.2.2.1)), (.v (.int .i64 a0.2.2.2.1)), (.bl a0.2.2.2.2.1)])] [] (spec_WeatherText.res a0 y) (spec_WeatherText.out a0 y) := by
  refine spec_intro (G23_ok.at tok []) (ct := []) Tryz.func7 rfl (by kernel_rfl) (by kernel_rfl) rfl ?_
  repeat' first
    | ((with_reducible refine eqg ?_); exact rfl)
    | ((with_reducible refine KOb.mk ?_); kernel_rfl)
    | ((with_reducible intro h); (repeat (first | replace H := grd_k H | replace H := out_step H (by assumption))); first | replace H := cond_t h H | replace H := cond_f h H | exact absurd h (by decide) | skip)
    | ((with_reducible refine Ob.mk ?_); first | (with_reducible rfl) | (first | ((repeat (first | (with_reducible exact grd_p H) | (replace H := grd_k H) | (replace H := out_step H (by assumption)))); done) | rfl | ((repeat (first | exact grd_p H | replace H := grd_k H | replace H := out_step H (by assumption))); done) | ((repeat (first | exact grd_p H | (have hp := grd_p H; exact hp) | replace H := grd_k H | replace H := out_step H (by assumption) | (replace H := bind_some H; obtain ⟨_, _, H⟩ := H))); done) | (repeat (first | exact grd_p H | replace H := grd_k H | replace H := out_step H (by assumption)))))
    | (with_reducible exact True.intro)
    | ((conv => whnf); first
        | (with_reducible refine And.intro ?_ ?_)
        | (with_reducible exact True.intro)
        | ((with_reducible refine Ob.mk ?_); first | (with_reducible rfl) | (first | ((repeat (first | (with_reducible exact grd_p H) | (replace H := grd_k H) | (replace H := out_step H (by assumption)))); done) | rfl | ((repeat (first | exact grd_p H | replace H := grd_k H | replace H := out_step H (by assumption))); done) | ((repeat (first | exact grd_p H | (have hp := grd_p H; exact hp) | replace H := grd_k H | replace H := out_step H (by assumption) | (replace H := bind_some H; obtain ⟨_, _, H⟩ := H))); done) | (repeat (first | exact grd_p H | replace H := grd_k H | replace H := out_step H (by assumption)))))
        | ((with_reducible refine CallW.mk ?_); (repeat (first | replace H := grd_k H | replace H := out_step H (by assumption))); replace H := bind_some H; obtain ⟨y, hy, H⟩ := H; first | ((with_reducible have hz : spec_l17One _ = some y := hy); clear hz; refine Exists.intro _ (Exists.intro _ ⟨spec_l17One.call hy ?_, rfl, rfl, ?_⟩)) | ((with_reducible have hz : spec_l17Text _ = some y := hy); clear hz; refine Exists.intro _ (Exists.intro _ ⟨spec_l17Text.call hy ?_, rfl, rfl, ?_⟩)))
        | ((with_reducible refine fin_mk ?_); (repeat (first | replace H := grd_k H | replace H := out_step H (by assumption))); have H := Option.some.inj H; subst H))
    | constructor
def G24 : Env := G23.add 7 [] spec_WeatherText.S
theorem G24_ok : EnvOk Tryz.prog G24 := G23_ok.add ent_7 fun ar h r h1 ⟨a0, y, hy, e1, e2, e3, e4⟩ => by
  subst e3 e4; exact (spec_WeatherText.spec a0 y hy).le e1 e2
attribute [local irreducible] spec_WeatherText

noncomputable def strings_Split (a0 : ByteArray) (a1 : ByteArray) : Option ((List ByteArray)) :=
  (grd (a0.size < 4294967281 ∧ 1 ≤ a1.size) ((some (splitB a0 a1))))
def strings_Split.res (_ : ByteArray) (_ : ByteArray) (_ : (List ByteArray)) : AV := (.own 0)
def strings_Split.out (_ : ByteArray) (_ : ByteArray) (y : (List ByteArray)) : List (Option LB) := [some (.arr 9 .str y)]
def strings_Split.S (ar : List AV) (h : List (Option LB)) (r : AV) (h1 : List (Option LB)) : Prop := ∃ a0 a1 y, strings_Split a0 a1 = some y ∧ leL ar [(.v (.string a0)), (.v (.string a1))] ∧ leH h [] ∧ r = strings_Split.res a0 a1 y ∧ h1 = strings_Split.out a0 a1 y
theorem strings_Split.call {ar : List AV} {h : List (Option LB)} {a0 : ByteArray} {a1 : ByteArray} {y : (List ByteArray)} (H : strings_Split a0 a1 = some y) (h0 : leLk ar [(.v (.string a0)), (.v (.string a1))] (leHk h [])) : strings_Split.S ar h (strings_Split.res a0 a1 y) (strings_Split.out a0 a1 y) := ⟨a0, a1, y, H, (args_ok h0).1, (args_ok h0).2, rfl, rfl⟩
theorem strings_Split.spec (a0 : ByteArray) (a1 : ByteArray) (y : (List ByteArray)) (H : strings_Split a0 a1 = some y) : Spec Tryz.prog 25 [(.v (.string a0)), (.v (.string a1))] [] (strings_Split.res a0 a1 y) (strings_Split.out a0 a1 y) := by
  have hg := grd_p H
  have H := Option.some.inj (grd_k H)
  subst H
  exact ext_strings_Split a0 a1 hg
def G25 : Env := G24.add 25 [] strings_Split.S
theorem G25_ok : EnvOk Tryz.prog G25 := G24_ok.add ent_25 fun ar h r h1 ⟨a0, a1, y, hy, e1, e2, e3, e4⟩ => by
  subst e3 e4; exact (strings_Split.spec a0 a1 y hy).le e1 e2
attribute [local irreducible] strings_Split

noncomputable def strings_Cut (a0 : ByteArray) (a1 : ByteArray) : Option (ByteArray × ByteArray × Bool) :=
  (grd (a0.size < 4294967281) ((some ((cutA a0 a1), (cutB a0 a1), (cutF a0 a1)))))
def strings_Cut.res (_ : ByteArray) (_ : ByteArray) (y : ByteArray × ByteArray × Bool) : AV := (.tup [(.v (.string y.1)), (.v (.string y.2.1)), (.bl y.2.2)])
def strings_Cut.out (_ : ByteArray) (_ : ByteArray) (_ : ByteArray × ByteArray × Bool) : List (Option LB) := []
def strings_Cut.S (ar : List AV) (h : List (Option LB)) (r : AV) (h1 : List (Option LB)) : Prop := ∃ a0 a1 y, strings_Cut a0 a1 = some y ∧ leL ar [(.v (.string a0)), (.v (.string a1))] ∧ leH h [] ∧ r = strings_Cut.res a0 a1 y ∧ h1 = strings_Cut.out a0 a1 y
theorem strings_Cut.call {ar : List AV} {h : List (Option LB)} {a0 : ByteArray} {a1 : ByteArray} {y : ByteArray × ByteArray × Bool} (H : strings_Cut a0 a1 = some y) (h0 : leLk ar [(.v (.string a0)), (.v (.string a1))] (leHk h [])) : strings_Cut.S ar h (strings_Cut.res a0 a1 y) (strings_Cut.out a0 a1 y) := ⟨a0, a1, y, H, (args_ok h0).1, (args_ok h0).2, rfl, rfl⟩
theorem strings_Cut.spec (a0 : ByteArray) (a1 : ByteArray) (y : ByteArray × ByteArray × Bool) (H : strings_Cut a0 a1 = some y) : Spec Tryz.prog 26 [(.v (.string a0)), (.v (.string a1))] [] (strings_Cut.res a0 a1 y) (strings_Cut.out a0 a1 y) := by
  have hg := grd_p H
  have H := Option.some.inj (grd_k H)
  subst H
  exact ext_strings_Cut a0 a1 hg
def G26 : Env := G25.add 26 [] strings_Cut.S
theorem G26_ok : EnvOk Tryz.prog G26 := G25_ok.add ent_26 fun ar h r h1 ⟨a0, a1, y, hy, e1, e2, e3, e4⟩ => by
  subst e3 e4; exact (strings_Cut.spec a0 a1 y hy).le e1 e2
attribute [local irreducible] strings_Cut

noncomputable def internal_stringslite_HasPrefix (a0 : ByteArray) (a1 : ByteArray) : Option (Bool) :=
  (cond (decide ((a1.size : Int) ≤ (a0.size : Int))) (grd (0 ≤ (0 : Int) ∧ (0 : Int) ≤ (a1.size : Int) ∧ (a1.size : Int) ≤ (a0.size : Int)) ((some (decide ((bsub a0 (0 : Int) (a1.size : Int)) = a1))))) ((some false)))
def internal_stringslite_HasPrefix.res (_ : ByteArray) (_ : ByteArray) (y : Bool) : AV := (.bl y)
def internal_stringslite_HasPrefix.out (_ : ByteArray) (_ : ByteArray) (_ : Bool) : List (Option LB) := []
def internal_stringslite_HasPrefix.S (ar : List AV) (h : List (Option LB)) (r : AV) (h1 : List (Option LB)) : Prop := ∃ a0 a1 y, internal_stringslite_HasPrefix a0 a1 = some y ∧ leL ar [(.v (.string a0)), (.v (.string a1))] ∧ leH h [] ∧ r = internal_stringslite_HasPrefix.res a0 a1 y ∧ h1 = internal_stringslite_HasPrefix.out a0 a1 y
theorem internal_stringslite_HasPrefix.call {ar : List AV} {h : List (Option LB)} {a0 : ByteArray} {a1 : ByteArray} {y : Bool} (H : internal_stringslite_HasPrefix a0 a1 = some y) (h0 : leLk ar [(.v (.string a0)), (.v (.string a1))] (leHk h [])) : internal_stringslite_HasPrefix.S ar h (internal_stringslite_HasPrefix.res a0 a1 y) (internal_stringslite_HasPrefix.out a0 a1 y) := ⟨a0, a1, y, H, (args_ok h0).1, (args_ok h0).2, rfl, rfl⟩
set_option maxHeartbeats 100000000 in
set_option maxRecDepth 100000 in
theorem internal_stringslite_HasPrefix.spec (a0 : ByteArray) (a1 : ByteArray) (y : Bool) (H : internal_stringslite_HasPrefix a0 a1 = some y) : Spec Tryz.prog 74 [(.v (.string a0)), (.v (.string a1))] [] (internal_stringslite_HasPrefix.res a0 a1 y) (internal_stringslite_HasPrefix.out a0 a1 y) := by
  refine spec_intro (G26_ok.at tok []) (ct := []) Tryz.func74 rfl (by kernel_rfl) (by kernel_rfl) rfl ?_
  repeat' first
    | ((with_reducible refine eqg ?_); exact rfl)
    | ((with_reducible refine KOb.mk ?_); kernel_rfl)
    | ((with_reducible intro h); (repeat (first | replace H := grd_k H | replace H := out_step H (by assumption))); first | replace H := cond_t h H | replace H := cond_f h H | exact absurd h (by decide) | skip)
    | ((with_reducible refine Ob.mk ?_); first | (with_reducible rfl) | (first | ((repeat (first | (with_reducible exact grd_p H) | (replace H := grd_k H) | (replace H := out_step H (by assumption)))); done) | rfl | ((repeat (first | exact grd_p H | replace H := grd_k H | replace H := out_step H (by assumption))); done) | ((repeat (first | exact grd_p H | (have hp := grd_p H; exact hp) | replace H := grd_k H | replace H := out_step H (by assumption) | (replace H := bind_some H; obtain ⟨_, _, H⟩ := H))); done) | (repeat (first | exact grd_p H | replace H := grd_k H | replace H := out_step H (by assumption)))))
    | (with_reducible exact True.intro)
    | ((conv => whnf); first
        | (with_reducible refine And.intro ?_ ?_)
        | (with_reducible exact True.intro)
        | ((with_reducible refine Ob.mk ?_); first | (with_reducible rfl) | (first | ((repeat (first | (with_reducible exact grd_p H) | (replace H := grd_k H) | (replace H := out_step H (by assumption)))); done) | rfl | ((repeat (first | exact grd_p H | replace H := grd_k H | replace H := out_step H (by assumption))); done) | ((repeat (first | exact grd_p H | (have hp := grd_p H; exact hp) | replace H := grd_k H | replace H := out_step H (by assumption) | (replace H := bind_some H; obtain ⟨_, _, H⟩ := H))); done) | (repeat (first | exact grd_p H | replace H := grd_k H | replace H := out_step H (by assumption)))))
        | ((with_reducible refine fin_mk ?_); (repeat (first | replace H := grd_k H | replace H := out_step H (by assumption))); have H := Option.some.inj H; subst H))
    | constructor
def G27 : Env := G26.add 74 [] internal_stringslite_HasPrefix.S
theorem G27_ok : EnvOk Tryz.prog G27 := G26_ok.add ent_74 fun ar h r h1 ⟨a0, a1, y, hy, e1, e2, e3, e4⟩ => by
  subst e3 e4; exact (internal_stringslite_HasPrefix.spec a0 a1 y hy).le e1 e2
attribute [local irreducible] internal_stringslite_HasPrefix

noncomputable def internal_stringslite_TrimPrefix (a0 : ByteArray) (a1 : ByteArray) : Option (ByteArray) :=
  ((internal_stringslite_HasPrefix a0 a1).bind fun y1 => (cond y1 (grd (0 ≤ (a1.size : Int) ∧ (a1.size : Int) ≤ (a0.size : Int) ∧ (a0.size : Int) ≤ (a0.size : Int)) ((some (bsub a0 (a1.size : Int) (a0.size : Int))))) ((some a0))))
def internal_stringslite_TrimPrefix.res (_ : ByteArray) (_ : ByteArray) (y : ByteArray) : AV := (.v (.string y))
def internal_stringslite_TrimPrefix.out (_ : ByteArray) (_ : ByteArray) (_ : ByteArray) : List (Option LB) := []
def internal_stringslite_TrimPrefix.S (ar : List AV) (h : List (Option LB)) (r : AV) (h1 : List (Option LB)) : Prop := ∃ a0 a1 y, internal_stringslite_TrimPrefix a0 a1 = some y ∧ leL ar [(.v (.string a0)), (.v (.string a1))] ∧ leH h [] ∧ r = internal_stringslite_TrimPrefix.res a0 a1 y ∧ h1 = internal_stringslite_TrimPrefix.out a0 a1 y
theorem internal_stringslite_TrimPrefix.call {ar : List AV} {h : List (Option LB)} {a0 : ByteArray} {a1 : ByteArray} {y : ByteArray} (H : internal_stringslite_TrimPrefix a0 a1 = some y) (h0 : leLk ar [(.v (.string a0)), (.v (.string a1))] (leHk h [])) : internal_stringslite_TrimPrefix.S ar h (internal_stringslite_TrimPrefix.res a0 a1 y) (internal_stringslite_TrimPrefix.out a0 a1 y) := ⟨a0, a1, y, H, (args_ok h0).1, (args_ok h0).2, rfl, rfl⟩
set_option maxHeartbeats 100000000 in
set_option maxRecDepth 100000 in
theorem internal_stringslite_TrimPrefix.spec (a0 : ByteArray) (a1 : ByteArray) (y : ByteArray) (H : internal_stringslite_TrimPrefix a0 a1 = some y) : Spec Tryz.prog 73 [(.v (.string a0)), (.v (.string a1))] [] (internal_stringslite_TrimPrefix.res a0 a1 y) (internal_stringslite_TrimPrefix.out a0 a1 y) := by
  refine spec_intro (G27_ok.at tok []) (ct := []) Tryz.func73 rfl (by kernel_rfl) (by kernel_rfl) rfl ?_
  repeat' first
    | ((with_reducible refine eqg ?_); exact rfl)
    | ((with_reducible refine KOb.mk ?_); kernel_rfl)
    | ((with_reducible intro h); (repeat (first | replace H := grd_k H | replace H := out_step H (by assumption))); first | replace H := cond_t h H | replace H := cond_f h H | exact absurd h (by decide) | skip)
    | ((with_reducible refine Ob.mk ?_); first | (with_reducible rfl) | (first | ((repeat (first | (with_reducible exact grd_p H) | (replace H := grd_k H) | (replace H := out_step H (by assumption)))); done) | rfl | ((repeat (first | exact grd_p H | replace H := grd_k H | replace H := out_step H (by assumption))); done) | ((repeat (first | exact grd_p H | (have hp := grd_p H; exact hp) | replace H := grd_k H | replace H := out_step H (by assumption) | (replace H := bind_some H; obtain ⟨_, _, H⟩ := H))); done) | (repeat (first | exact grd_p H | replace H := grd_k H | replace H := out_step H (by assumption)))))
    | (with_reducible exact True.intro)
    | ((conv => whnf); first
        | (with_reducible refine And.intro ?_ ?_)
        | (with_reducible exact True.intro)
        | ((with_reducible refine Ob.mk ?_); first | (with_reducible rfl) | (first | ((repeat (first | (with_reducible exact grd_p H) | (replace H := grd_k H) | (replace H := out_step H (by assumption)))); done) | rfl | ((repeat (first | exact grd_p H | replace H := grd_k H | replace H := out_step H (by assumption))); done) | ((repeat (first | exact grd_p H | (have hp := grd_p H; exact hp) | replace H := grd_k H | replace H := out_step H (by assumption) | (replace H := bind_some H; obtain ⟨_, _, H⟩ := H))); done) | (repeat (first | exact grd_p H | replace H := grd_k H | replace H := out_step H (by assumption)))))
        | ((with_reducible refine CallW.mk ?_); (repeat (first | replace H := grd_k H | replace H := out_step H (by assumption))); replace H := bind_some H; obtain ⟨y, hy, H⟩ := H; first | ((with_reducible have hz : internal_stringslite_HasPrefix _ _ = some y := hy); clear hz; refine Exists.intro _ (Exists.intro _ ⟨internal_stringslite_HasPrefix.call hy ?_, rfl, rfl, ?_⟩)))
        | ((with_reducible refine fin_mk ?_); (repeat (first | replace H := grd_k H | replace H := out_step H (by assumption))); have H := Option.some.inj H; subst H))
    | constructor
def G28 : Env := G27.add 73 [] internal_stringslite_TrimPrefix.S
theorem G28_ok : EnvOk Tryz.prog G28 := G27_ok.add ent_73 fun ar h r h1 ⟨a0, a1, y, hy, e1, e2, e3, e4⟩ => by
  subst e3 e4; exact (internal_stringslite_TrimPrefix.spec a0 a1 y hy).le e1 e2
attribute [local irreducible] internal_stringslite_TrimPrefix

end Go.Proofs.YtaajchikfgbecaaGreatDoor
