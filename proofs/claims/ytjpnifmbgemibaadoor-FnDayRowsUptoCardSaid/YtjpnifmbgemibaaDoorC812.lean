/-
  Contracts, printed by a program.
-/
import Derived.Test.YtjpnifmbgemibaaDoorC811
namespace Go.Proofs.YtjpnifmbgemibaaDoor
open Go.RowKit
attribute [local irreducible] Ob loopwp Sub Spec Fin Again CallW CutC KOb iter joinx outm

attribute [local irreducible] laws_rBig spec_l1Cur_next spec_l1Cur_pick spec_l1Cur_among spec_l1Cur_one spec_l1Cur_of spec_l1Cur_dayRow

noncomputable def spec_DrawIsDayRow (a0 : (List Int)) : Option (DayRow) :=
  ((spec_l1Cur_among (a0, (0 : Int), (0 : Int), ()) [(0 : Int), (42 : Int), (999 : Int)]).bind fun y1 => ((spec_l1Cur_dayRow (y1.2.1, y1.2.2.1, y1.2.2.2.1, ()) y1.1).bind fun y2 => (some (y2.1.1, y2.1.2.1, y2.1.2.2.1, y2.1.2.2.2.1, y2.1.2.2.2.2.1, y2.1.2.2.2.2.2.1, ()))))
def spec_DrawIsDayRow.res (_ : (List Int)) (y : DayRow) : AV := (.agg [(.v (.int .i64 y.1)), (.v (.int .i64 y.2.1)), (.v (.int .i64 y.2.2.1)), (.v (.int .i64 y.2.2.2.1)), (.v (.int .i64 y.2.2.2.2.1)), (.v (.string y.2.2.2.2.2.1))])
def spec_DrawIsDayRow.out (_ : (List Int)) (_ : DayRow) : List (Option LB) := []
def spec_DrawIsDayRow.S (ar : List AV) (h : List (Option LB)) (r : AV) (h1 : List (Option LB)) : Prop := ∃ a0 y, spec_DrawIsDayRow a0 = some y ∧ leL ar [(.tree (.int .u8) a0)] ∧ leH h [] ∧ r = spec_DrawIsDayRow.res a0 y ∧ h1 = spec_DrawIsDayRow.out a0 y
theorem spec_DrawIsDayRow.call {ar : List AV} {h : List (Option LB)} {a0 : (List Int)} {y : DayRow} (H : spec_DrawIsDayRow a0 = some y) (h0 : leLk ar [(.tree (.int .u8) a0)] (leHk h [])) : spec_DrawIsDayRow.S ar h (spec_DrawIsDayRow.res a0 y) (spec_DrawIsDayRow.out a0 y) := ⟨a0, y, H, (args_ok h0).1, (args_ok h0).2, rfl, rfl⟩
set_option maxHeartbeats 100000000 in
set_option maxRecDepth 100000 in
theorem spec_DrawIsDayRow.spec (a0 : (List Int)) (y : DayRow) (H : spec_DrawIsDayRow a0 = some y) : Spec Tryd.prog 20 [(.tree (.int .u8) a0)] [] (spec_DrawIsDayRow.res a0 y) (spec_DrawIsDayRow.out a0 y) := by
  refine spec_intro (G7_ok.at tok []) (ct := []) Tryd.func20 rfl (by kernel_rfl) (by kernel_rfl) rfl ?_
  repeat' first
    | ((with_reducible refine eqg ?_); exact rfl)
    | ((with_reducible refine KOb.mk ?_); kernel_rfl)
    | ((with_reducible intro h); (repeat (first | replace H := grd_k H | replace H := out_step H (by assumption))); first | replace H := cond_t h H | replace H := cond_f h H | exact absurd h (by decide) | skip)
    | ((with_reducible refine Ob.mk ?_); first | (with_reducible rfl) | (first | ((repeat (first | (with_reducible exact grd_p H) | (replace H := grd_k H) | (replace H := out_step H (by assumption)))); done) | rfl | ((repeat (first | exact grd_p H | replace H := grd_k H | replace H := out_step H (by assumption))); done) | ((repeat (first | exact grd_p H | (have hp := grd_p H; exact hp) | replace H := grd_k H | replace H := out_step H (by assumption) | (replace H := bind_some H; obtain ⟨_, _, H⟩ := H))); done) | (repeat (first | exact grd_p H | replace H := grd_k H | replace H := out_step H (by assumption)))))
    | (with_reducible exact True.intro)
    | ((conv => whnf); first
        | (with_reducible refine And.intro ?_ ?_)
        | (with_reducible exact True.intro)
        | ((with_reducible refine Ob.mk ?_); first | (with_reducible rfl) | (first | ((repeat (first | (with_reducible exact grd_p H) | (replace H := grd_k H) | (replace H := out_step H (by assumption)))); done) | rfl | ((repeat (first | exact grd_p H | replace H := grd_k H | replace H := out_step H (by assumption))); done) | ((repeat (first | exact grd_p H | (have hp := grd_p H; exact hp) | replace H := grd_k H | replace H := out_step H (by assumption) | (replace H := bind_some H; obtain ⟨_, _, H⟩ := H))); done) | (repeat (first | exact grd_p H | replace H := grd_k H | replace H := out_step H (by assumption)))))
        | ((with_reducible refine CallW.mk ?_); (repeat (first | replace H := grd_k H | replace H := out_step H (by assumption))); replace H := bind_some H; obtain ⟨y, hy, H⟩ := H; first | ((with_reducible have hz : spec_l1Cur_among _ _ = some y := hy); clear hz; refine Exists.intro _ (Exists.intro _ ⟨spec_l1Cur_among.call hy ?_, rfl, rfl, ?_⟩)) | ((with_reducible have hz : spec_l1Cur_dayRow _ _ = some y := hy); clear hz; refine Exists.intro _ (Exists.intro _ ⟨spec_l1Cur_dayRow.call hy ?_, rfl, rfl, ?_⟩)))
        | ((with_reducible refine fin_mk ?_); (repeat (first | replace H := grd_k H | replace H := out_step H (by assumption))); have H := Option.some.inj H; subst H))
    | constructor
def G8 : Env := G7.add 20 [] spec_DrawIsDayRow.S
theorem G8_ok : EnvOk Tryd.prog G8 := G7_ok.add ent_20 fun ar h r h1 ⟨a0, y, hy, e1, e2, e3, e4⟩ => by
  subst e3 e4; exact (spec_DrawIsDayRow.spec a0 y hy).le e1 e2
attribute [local irreducible] spec_DrawIsDayRow

noncomputable def spec_DrawDayLine (a0 : (List Int)) : Option (DayRow) :=
  ((spec_DrawIsDayRow a0).bind fun y1 => (some (y1.1, y1.2.1, y1.2.2.1, y1.2.2.2.1, y1.2.2.2.2.1, y1.2.2.2.2.2.1, ())))
def spec_DrawDayLine.res (_ : (List Int)) (y : DayRow) : AV := (.agg [(.v (.int .i64 y.1)), (.v (.int .i64 y.2.1)), (.v (.int .i64 y.2.2.1)), (.v (.int .i64 y.2.2.2.1)), (.v (.int .i64 y.2.2.2.2.1)), (.v (.string y.2.2.2.2.2.1))])
def spec_DrawDayLine.out (_ : (List Int)) (_ : DayRow) : List (Option LB) := []
def spec_DrawDayLine.S (ar : List AV) (h : List (Option LB)) (r : AV) (h1 : List (Option LB)) : Prop := ∃ a0 y, spec_DrawDayLine a0 = some y ∧ leL ar [(.tree (.int .u8) a0)] ∧ leH h [] ∧ r = spec_DrawDayLine.res a0 y ∧ h1 = spec_DrawDayLine.out a0 y
theorem spec_DrawDayLine.call {ar : List AV} {h : List (Option LB)} {a0 : (List Int)} {y : DayRow} (H : spec_DrawDayLine a0 = some y) (h0 : leLk ar [(.tree (.int .u8) a0)] (leHk h [])) : spec_DrawDayLine.S ar h (spec_DrawDayLine.res a0 y) (spec_DrawDayLine.out a0 y) := ⟨a0, y, H, (args_ok h0).1, (args_ok h0).2, rfl, rfl⟩
set_option maxHeartbeats 100000000 in
set_option maxRecDepth 100000 in
theorem spec_DrawDayLine.spec (a0 : (List Int)) (y : DayRow) (H : spec_DrawDayLine a0 = some y) : Spec Tryd.prog 5 [(.tree (.int .u8) a0)] [] (spec_DrawDayLine.res a0 y) (spec_DrawDayLine.out a0 y) := by
  refine spec_intro (G8_ok.at tok []) (ct := []) Tryd.func5 rfl (by kernel_rfl) (by kernel_rfl) rfl ?_
  repeat' first
    | ((with_reducible refine eqg ?_); exact rfl)
    | ((with_reducible refine KOb.mk ?_); kernel_rfl)
    | ((with_reducible intro h); (repeat (first | replace H := grd_k H | replace H := out_step H (by assumption))); first | replace H := cond_t h H | replace H := cond_f h H | exact absurd h (by decide) | skip)
    | ((with_reducible refine Ob.mk ?_); first | (with_reducible rfl) | (first | ((repeat (first | (with_reducible exact grd_p H) | (replace H := grd_k H) | (replace H := out_step H (by assumption)))); done) | rfl | ((repeat (first | exact grd_p H | replace H := grd_k H | replace H := out_step H (by assumption))); done) | ((repeat (first | exact grd_p H | (have hp := grd_p H; exact hp) | replace H := grd_k H | replace H := out_step H (by assumption) | (replace H := bind_some H; obtain ⟨_, _, H⟩ := H))); done) | (repeat (first | exact grd_p H | replace H := grd_k H | replace H := out_step H (by assumption)))))
    | (with_reducible exact True.intro)
    | ((conv => whnf); first
        | (with_reducible refine And.intro ?_ ?_)
        | (with_reducible exact True.intro)
        | ((with_reducible refine Ob.mk ?_); first | (with_reducible rfl) | (first | ((repeat (first | (with_reducible exact grd_p H) | (replace H := grd_k H) | (replace H := out_step H (by assumption)))); done) | rfl | ((repeat (first | exact grd_p H | replace H := grd_k H | replace H := out_step H (by assumption))); done) | ((repeat (first | exact grd_p H | (have hp := grd_p H; exact hp) | replace H := grd_k H | replace H := out_step H (by assumption) | (replace H := bind_some H; obtain ⟨_, _, H⟩ := H))); done) | (repeat (first | exact grd_p H | replace H := grd_k H | replace H := out_step H (by assumption)))))
        | ((with_reducible refine CallW.mk ?_); (repeat (first | replace H := grd_k H | replace H := out_step H (by assumption))); replace H := bind_some H; obtain ⟨y, hy, H⟩ := H; first | ((with_reducible have hz : spec_DrawIsDayRow _ = some y := hy); clear hz; refine Exists.intro _ (Exists.intro _ ⟨spec_DrawIsDayRow.call hy ?_, rfl, rfl, ?_⟩)))
        | ((with_reducible refine fin_mk ?_); (repeat (first | replace H := grd_k H | replace H := out_step H (by assumption))); have H := Option.some.inj H; subst H))
    | constructor
def G9 : Env := G8.add 5 [] spec_DrawDayLine.S
theorem G9_ok : EnvOk Tryd.prog G9 := G8_ok.add ent_5 fun ar h r h1 ⟨a0, y, hy, e1, e2, e3, e4⟩ => by
  subst e3 e4; exact (spec_DrawDayLine.spec a0 y hy).le e1 e2
attribute [local irreducible] spec_DrawDayLine

noncomputable def impl_within (a0 : Int) (a1 : Int) (a2 : Int) : Option (Bool) :=
  (cond (decide (a1 ≤ a0)) ((some (decide (a0 ≤ a2)))) ((some false)))
def impl_within.res (_ : Int) (_ : Int) (_ : Int) (y : Bool) : AV := (.bl y)
def impl_within.out (_ : Int) (_ : Int) (_ : Int) (_ : Bool) : List (Option LB) := []
def impl_within.S (ar : List AV) (h : List (Option LB)) (r : AV) (h1 : List (Option LB)) : Prop := ∃ a0 a1 a2 y, impl_within a0 a1 a2 = some y ∧ leL ar [(.v (.int .i64 a0)), (.v (.int .i64 a1)), (.v (.int .i64 a2))] ∧ leH h [] ∧ r = impl_within.res a0 a1 a2 y ∧ h1 = impl_within.out a0 a1 a2 y
theorem impl_within.call {ar : List AV} {h : List (Option LB)} {a0 : Int} {a1 : Int} {a2 : Int} {y : Bool} (H : impl_within a0 a1 a2 = some y) (h0 : leLk ar [(.v (.int .i64 a0)), (.v (.int .i64 a1)), (.v (.int .i64 a2))] (leHk h [])) : impl_within.S ar h (impl_within.res a0 a1 a2 y) (impl_within.out a0 a1 a2 y) := ⟨a0, a1, a2, y, H, (args_ok h0).1, (args_ok h0).2, rfl, rfl⟩
set_option maxHeartbeats 100000000 in
set_option maxRecDepth 100000 in
theorem impl_within.spec (a0 : Int) (a1 : Int) (a2 : Int) (y : Bool) (H : impl_within a0 a1 a2 = some y) : Spec Tryd.prog 25 [(.v (.int .i64 a0)), (.v (.int .i64 a1)), (.v (.int .i64 a2))] [] (impl_within.res a0 a1 a2 y) (impl_within.out a0 a1 a2 y) := by
  refine spec_intro (G9_ok.at tok []) (ct := []) Tryd.func25 rfl (by kernel_rfl) (by kernel_rfl) rfl ?_
  repeat' first
    | ((with_reducible refine eqg ?_); exact rfl)
    | ((with_reducible refine KOb.mk ?_); kernel_rfl)
    | ((with_reducible intro h); (repeat (first | replace H := grd_k H | replace H := out_step H (by assumption))); first | replace H := cond_t h H | replace H := cond_f h H | exact absurd h (by decide) | skip)
    | ((with_reducible refine Ob.mk ?_); first | (with_reducible rfl) | (first | ((repeat (first | (with_reducible exact grd_p H) | (replace H := grd_k H) | (replace H := out_step H (by assumption)))); done) | rfl | ((repeat (first | exact grd_p H | replace H := grd_k H | replace H := out_step H (by assumption))); done) | ((repeat (first | exact grd_p H | (have hp := grd_p H; exact hp) | replace H := grd_k H | replace H := out_step H (by assumption) | (replace H := bind_some H; obtain ⟨_, _, H⟩ := H))); done) | (repeat (first | exact grd_p H | replace H := grd_k H | replace H := out_step H (by assumption)))))
    | (with_reducible exact True.intro)
    | ((conv => whnf); first
        | (with_reducible refine And.intro ?_ ?_)
        | (with_reducible exact True.intro)
        | ((with_reducible refine Ob.mk ?_); first | (with_reducible rfl) | (first | ((repeat (first | (with_reducible exact grd_p H) | (replace H := grd_k H) | (replace H := out_step H (by assumption)))); done) | rfl | ((repeat (first | exact grd_p H | replace H := grd_k H | replace H := out_step H (by assumption))); done) | ((repeat (first | exact grd_p H | (have hp := grd_p H; exact hp) | replace H := grd_k H | replace H := out_step H (by assumption) | (replace H := bind_some H; obtain ⟨_, _, H⟩ := H))); done) | (repeat (first | exact grd_p H | replace H := grd_k H | replace H := out_step H (by assumption)))))
        | ((with_reducible refine fin_mk ?_); (repeat (first | replace H := grd_k H | replace H := out_step H (by assumption))); have H := Option.some.inj H; subst H))
    | constructor
def G10 : Env := G9.add 25 [] impl_within.S
theorem G10_ok : EnvOk Tryd.prog G10 := G9_ok.add ent_25 fun ar h r h1 ⟨a0, a1, a2, y, hy, e1, e2, e3, e4⟩ => by
  subst e3 e4; exact (impl_within.spec a0 a1 a2 y hy).le e1 e2
attribute [local irreducible] impl_within

noncomputable def impl_isDay (a0 : Int) : Option (Bool) :=
  ((impl_within a0 (0 : Int) (999 : Int)).bind fun y1 => (some y1))
def impl_isDay.res (_ : Int) (y : Bool) : AV := (.bl y)
def impl_isDay.out (_ : Int) (_ : Bool) : List (Option LB) := []
def impl_isDay.S (ar : List AV) (h : List (Option LB)) (r : AV) (h1 : List (Option LB)) : Prop := ∃ a0 y, impl_isDay a0 = some y ∧ leL ar [(.v (.int .i64 a0))] ∧ leH h [] ∧ r = impl_isDay.res a0 y ∧ h1 = impl_isDay.out a0 y
theorem impl_isDay.call {ar : List AV} {h : List (Option LB)} {a0 : Int} {y : Bool} (H : impl_isDay a0 = some y) (h0 : leLk ar [(.v (.int .i64 a0))] (leHk h [])) : impl_isDay.S ar h (impl_isDay.res a0 y) (impl_isDay.out a0 y) := ⟨a0, y, H, (args_ok h0).1, (args_ok h0).2, rfl, rfl⟩
set_option maxHeartbeats 100000000 in
set_option maxRecDepth 100000 in
theorem impl_isDay.spec (a0 : Int) (y : Bool) (H : impl_isDay a0 = some y) : Spec Tryd.prog 24 [(.v (.int .i64 a0))] [] (impl_isDay.res a0 y) (impl_isDay.out a0 y) := by
  refine spec_intro (G10_ok.at tok []) (ct := []) Tryd.func24 rfl (by kernel_rfl) (by kernel_rfl) rfl ?_
  repeat' first
    | ((with_reducible refine eqg ?_); exact rfl)
    | ((with_reducible refine KOb.mk ?_); kernel_rfl)
    | ((with_reducible intro h); (repeat (first | replace H := grd_k H | replace H := out_step H (by assumption))); first | replace H := cond_t h H | replace H := cond_f h H | exact absurd h (by decide) | skip)
    | ((with_reducible refine Ob.mk ?_); first | (with_reducible rfl) | (first | ((repeat (first | (with_reducible exact grd_p H) | (replace H := grd_k H) | (replace H := out_step H (by assumption)))); done) | rfl | ((repeat (first | exact grd_p H | replace H := grd_k H | replace H := out_step H (by assumption))); done) | ((repeat (first | exact grd_p H | (have hp := grd_p H; exact hp) | replace H := grd_k H | replace H := out_step H (by assumption) | (replace H := bind_some H; obtain ⟨_, _, H⟩ := H))); done) | (repeat (first | exact grd_p H | replace H := grd_k H | replace H := out_step H (by assumption)))))
    | (with_reducible exact True.intro)
    | ((conv => whnf); first
        | (with_reducible refine And.intro ?_ ?_)
        | (with_reducible exact True.intro)
        | ((with_reducible refine Ob.mk ?_); first | (with_reducible rfl) | (first | ((repeat (first | (with_reducible exact grd_p H) | (replace H := grd_k H) | (replace H := out_step H (by assumption)))); done) | rfl | ((repeat (first | exact grd_p H | replace H := grd_k H | replace H := out_step H (by assumption))); done) | ((repeat (first | exact grd_p H | (have hp := grd_p H; exact hp) | replace H := grd_k H | replace H := out_step H (by assumption) | (replace H := bind_some H; obtain ⟨_, _, H⟩ := H))); done) | (repeat (first | exact grd_p H | replace H := grd_k H | replace H := out_step H (by assumption)))))
        | ((with_reducible refine CallW.mk ?_); (repeat (first | replace H := grd_k H | replace H := out_step H (by assumption))); replace H := bind_some H; obtain ⟨y, hy, H⟩ := H; first | ((with_reducible have hz : impl_within _ _ _ = some y := hy); clear hz; refine Exists.intro _ (Exists.intro _ ⟨impl_within.call hy ?_, rfl, rfl, ?_⟩)))
        | ((with_reducible refine fin_mk ?_); (repeat (first | replace H := grd_k H | replace H := out_step H (by assumption))); have H := Option.some.inj H; subst H))
    | constructor
def G11 : Env := G10.add 24 [] impl_isDay.S
theorem G11_ok : EnvOk Tryd.prog G11 := G10_ok.add ent_24 fun ar h r h1 ⟨a0, y, hy, e1, e2, e3, e4⟩ => by
  subst e3 e4; exact (impl_isDay.spec a0 y hy).le e1 e2
attribute [local irreducible] impl_isDay

noncomputable def impl_isWord_loop1 (a0 : ByteArray) (v2 : Int) : Option (Lp (Int) ((Unit) ⊕ (Unit))) :=
  (cond (decide (v2 < (a0.size : Int))) (grd (0 ≤ v2 ∧ v2 < (a0.size : Int)) (cond (decide ((bAt a0 v2) < (97 : Int))) ((some (.out (Sum.inl ())))) (grd (0 ≤ v2 ∧ v2 < (a0.size : Int)) (cond (decide ((122 : Int) < (bAt a0 v2))) ((some (.out (Sum.inl ())))) (some (.go (w64 (v2 + (1 : Int))))))))) ((some (.out (Sum.inr ())))))
noncomputable def impl_isWord (a0 : ByteArray) : Option (Bool) :=
  ((iter (fun s => impl_isWord_loop1 a0 s) (0 : Int)).bind (Sum.elim (fun _ => (some false)) (fun _ => (cond (decide ((1 : Int) ≤ (a0.size : Int))) ((some (decide ((a0.size : Int) ≤ (10 : Int))))) ((some false))))))
def impl_isWord.res (_ : ByteArray) (y : Bool) : AV := (.bl y)
def impl_isWord.out (_ : ByteArray) (_ : Bool) : List (Option LB) := []
def impl_isWord.S (ar : List AV) (h : List (Option LB)) (r : AV) (h1 : List (Option LB)) : Prop := ∃ a0 y, impl_isWord a0 = some y ∧ leL ar [(.v (.string a0))] ∧ leH h [] ∧ r = impl_isWord.res a0 y ∧ h1 = impl_isWord.out a0 y
theorem impl_isWord.call {ar : List AV} {h : List (Option LB)} {a0 : ByteArray} {y : Bool} (H : impl_isWord a0 = some y) (h0 : leLk ar [(.v (.string a0))] (leHk h [])) : impl_isWord.S ar h (impl_isWord.res a0 y) (impl_isWord.out a0 y) := ⟨a0, y, H, (args_ok h0).1, (args_ok h0).2, rfl, rfl⟩
set_option maxHeartbeats 100000000 in
set_option maxRecDepth 100000 in
theorem impl_isWord.spec (a0 : ByteArray) (y : Bool) (H : impl_isWord a0 = some y) : Spec Tryd.prog 26 [(.v (.string a0))] [] (impl_isWord.res a0 y) (impl_isWord.out a0 y) := by
  refine spec_intro (G11_ok.at tok []) (ct := [(6, some [0, 5, 6, 14, 15, 16, 17, 24, 25, 26])]) Tryd.func26 rfl (by kernel_rfl) (by kernel_rfl) rfl ?_
  repeat' first
    | ((with_reducible refine eqg ?_); exact rfl)
    | ((with_reducible refine KOb.mk ?_); kernel_rfl)
    | ((with_reducible intro h); (repeat (first | replace H := grd_k H | replace H := out_step H (by assumption))); first | replace H := cond_t h H | replace H := cond_f h H | exact absurd h (by decide) | skip)
    | ((with_reducible refine Ob.mk ?_); first | (with_reducible rfl) | (first | ((repeat (first | (with_reducible exact grd_p H) | (replace H := grd_k H) | (replace H := out_step H (by assumption)))); done) | rfl | ((repeat (first | exact grd_p H | replace H := grd_k H | replace H := out_step H (by assumption))); done) | ((repeat (first | exact grd_p H | (have hp := grd_p H; exact hp) | replace H := grd_k H | replace H := out_step H (by assumption) | (replace H := bind_some H; obtain ⟨_, _, H⟩ := H))); done) | (repeat (first | exact grd_p H | replace H := grd_k H | replace H := out_step H (by assumption)))))
    | (with_reducible exact True.intro)
    | ((conv => whnf); first
        | (with_reducible refine And.intro ?_ ?_)
        | (with_reducible exact True.intro)
        | ((with_reducible refine Ob.mk ?_); first | (with_reducible rfl) | (first | ((repeat (first | (with_reducible exact grd_p H) | (replace H := grd_k H) | (replace H := out_step H (by assumption)))); done) | rfl | ((repeat (first | exact grd_p H | replace H := grd_k H | replace H := out_step H (by assumption))); done) | ((repeat (first | exact grd_p H | (have hp := grd_p H; exact hp) | replace H := grd_k H | replace H := out_step H (by assumption) | (replace H := bind_some H; obtain ⟨_, _, H⟩ := H))); done) | (repeat (first | exact grd_p H | replace H := grd_k H | replace H := out_step H (by assumption)))))
        | ((repeat (first | replace H := grd_k H | replace H := out_step H (by assumption))); refine loop_iter (G11_ok.at tok []) (ct := [(6, some [0, 5, 6, 14, 15, 16, 17, 24, 25, 26])]) (F := (fun s1 : Int => ⟨sl [(0, (.v (.string a0))), (5, (.v (.int .i64 (a0.size : Int)))), (6, (.v (.int .i64 s1)))], []⟩)) (step := (fun s : Int => impl_isWord_loop1 _ s)) _ H (by kernel_rfl) (sub_auto ?_) ?_; rotate_left; (intro s1 r v hr H); rotate_right)
        | ((repeat (first | replace H := grd_k H | replace H := out_step H (by assumption))); refine again_step H (by assumption) (sub_auto ?_))
        | ((with_reducible refine fin_mk ?_); (repeat (first | replace H := grd_k H | replace H := out_step H (by assumption))); have H := Option.some.inj H; subst H))
    | constructor
def G12 : Env := G11.add 26 [] impl_isWord.S
theorem G12_ok : EnvOk Tryd.prog G12 := G11_ok.add ent_26 fun ar h r h1 ⟨a0, y, hy, e1, e2, e3, e4⟩ => by
  subst e3 e4; exact (impl_isWord.spec a0 y hy).le e1 e2
attribute [local irreducible] impl_isWord

noncomputable def impl_IsDayRow (a0 : DayRow) : Option (Bool) :=
  ((impl_isDay a0.1).bind fun y1 => (cond (!y1) ((some false)) ((impl_within a0.2.1 (0 : Int) (99999 : Int)).bind fun y2 => (cond (!y2) ((some false)) ((impl_within a0.2.2.1 (0 : Int) (99999 : Int)).bind fun y3 => (cond (!y3) ((some false)) ((impl_within a0.2.2.2.1 (0 : Int) (24 : Int)).bind fun y4 => (cond (!y4) ((some false)) ((impl_within a0.2.2.2.2.1 (0 : Int) (99 : Int)).bind fun y5 => (cond (!y5) ((some false)) (joinx (cond (decide (a0.2.2.2.1 = (0 : Int))) (cond (decide ((0 : Int) < (w64 ((w64 (a0.2.1 + a0.2.2.1)) + a0.2.2.2.2.1)))) (outm ((some false))) ((some (.go ())))) ((some (.go ())))) (fun (_ : Unit) => (cond (decide (a0.2.2.2.2.1 = (0 : Int))) (cond (decide (a0.2.2.2.2.2.1 = (ByteArray.mk #[]))) ((some true)) (cond (decide ((0 : Int) < a0.2.2.2.2.1)) ((impl_isWord a0.2.2.2.2.2.1).bind fun y7 => (some y7)) ((some false)))) (cond (decide ((0 : Int) < a0.2.2.2.2.1)) ((impl_isWord a0.2.2.2.2.2.1).bind fun y8 => (some y8)) ((some false))))))))))))))))
def impl_IsDayRow.res (_ : DayRow) (y : Bool) : AV := (.bl y)
def impl_IsDayRow.out (_ : DayRow) (_ : Bool) : List (Option LB) := []
def impl_IsDayRow.S (ar : List AV) (h : List (Option LB)) (r : AV) (h1 : List (Option LB)) : Prop := ∃ a0 y, impl_IsDayRow a0 = some y ∧ leL ar [(.agg [(.v (.int .i64 a0.1)), (.v (.int .i64 a0.2.1)), (.v (.int .i64 a0.2.2.1)), (.v (.int .i64 a0.2.2.2.1)), (.v (.int .i64 a0.2.2.2.2.1)), (.v (.string a0.2.2.2.2.2.1))])] ∧ leH h [] ∧ r = impl_IsDayRow.res a0 y ∧ h1 = impl_IsDayRow.out a0 y
theorem impl_IsDayRow.call {ar : List AV} {h : List (Option LB)} {a0 : DayRow} {y : Bool} (H : impl_IsDayRow a0 = some y) (h0 : leLk ar [(.agg [(.v (.int .i64 a0.1)), (.v (.int .i64 a0.2.1)), (.v (.int .i64 a0.2.2.1)), (.v (.int .i64 a0.2.2.2.1)), (.v (.int .i64 a0.2.2.2.2.1)), (.v (.string a0.2.2.2.2.2.1))])] (leHk h [])) : impl_IsDayRow.S ar h (impl_IsDayRow.res a0 y) (impl_IsDayRow.out a0 y) := ⟨a0, y, H, (args_ok h0).1, (args_ok h0).2, rfl, rfl⟩
set_option maxHeartbeats 100000000 in
set_option maxRecDepth 100000 in
theorem impl_IsDayRow.spec (a0 : DayRow) (y : Bool) (H : impl_IsDayRow a0 = some y) : Spec Tryd.prog 8 [(.agg [(.v (.int .i64 a0.1)), (.v (.int .i64 a0.2.1)), (.v (.int .i64 a0.2.2.1)), (.v (.int .i64 a0.2.2.2.1)), (.v (.int .i64 a0.2.2.2.2.1)), (.v (.string a0.2.2.2.2.2.1))])] [] (impl_IsDayRow.res a0 y) (impl_IsDayRow.out a0 y) := by
  refine spec_intro (G12_ok.at tok []) (ct := [(5, none), (2, some [1, 30, 35, 36, 37, 38, 39, 40, 41, 42, 43, 49, 50, 51, 54, 55, 56, 57, 58, 59, 60, 61]), (4, some [1, 44, 49, 50, 51, 54, 55, 56, 57, 58, 59, 60, 61])]) Tryd.func8 rfl (by kernel_rfl) (by kernel_rfl) rfl ?_
  repeat' first
    | (with_reducible exact (outm_no H).elim)
    | ((replace H := out_step H (by assumption)); exact (outm_no H).elim)
    | ((with_reducible refine eqg ?_); exact rfl)
    | ((with_reducible refine KOb.mk ?_); kernel_rfl)
    | ((with_reducible intro h); (repeat (first | replace H := grd_k H | replace H := out_step H (by assumption) | replace H := outm_out H)); first | replace H := cond_t h H | replace H := cond_f h H | exact absurd h (by decide) | skip)
    | ((with_reducible refine Ob.mk ?_); first | (with_reducible rfl) | (first | ((repeat (first | (with_reducible exact grd_p H) | (replace H := grd_k H) | (replace H := out_step H (by assumption)) | replace H := outm_out H)); done) | rfl | ((repeat (first | exact grd_p H | replace H := grd_k H | replace H := out_step H (by assumption) | replace H := outm_out H)); done) | ((repeat (first | exact grd_p H | (have hp := grd_p H; exact hp) | replace H := grd_k H | replace H := out_step H (by assumption) | replace H := outm_out H | (replace H := bind_some H; obtain ⟨_, _, H⟩ := H))); done) | (repeat (first | exact grd_p H | replace H := grd_k H | replace H := out_step H (by assumption) | replace H := outm_out H))))
    | (with_reducible exact True.intro)
    | ((conv => whnf); first
        | (with_reducible refine And.intro ?_ ?_)
        | (with_reducible exact True.intro)
        | ((with_reducible refine Ob.mk ?_); first | (with_reducible rfl) | (first | ((repeat (first | (with_reducible exact grd_p H) | (replace H := grd_k H) | (replace H := out_step H (by assumption)) | replace H := outm_out H)); done) | rfl | ((repeat (first | exact grd_p H | replace H := grd_k H | replace H := out_step H (by assumption) | replace H := outm_out H)); done) | ((repeat (first | exact grd_p H | (have hp := grd_p H; exact hp) | replace H := grd_k H | replace H := out_step H (by assumption) | replace H := outm_out H | (replace H := bind_some H; obtain ⟨_, _, H⟩ := H))); done) | (repeat (first | exact grd_p H | replace H := grd_k H | replace H := out_step H (by assumption) | replace H := outm_out H))))
        | ((with_reducible refine CallW.mk ?_); (repeat (first | replace H := grd_k H | replace H := out_step H (by assumption) | replace H := outm_out H)); replace H := bind_some H; obtain ⟨y, hy, H⟩ := H; first | ((with_reducible have hz : impl_isDay _ = some y := hy); clear hz; refine Exists.intro _ (Exists.intro _ ⟨impl_isDay.call hy ?_, rfl, rfl, ?_⟩)) | ((with_reducible have hz : impl_within _ _ _ = some y := hy); clear hz; refine Exists.intro _ (Exists.intro _ ⟨impl_within.call hy ?_, rfl, rfl, ?_⟩)) | ((with_reducible have hz : impl_isWord _ = some y := hy); clear hz; refine Exists.intro _ (Exists.intro _ ⟨impl_isWord.call hy ?_, rfl, rfl, ?_⟩)))
        | ((with_reducible refine cutAt (id := 5) ?_); (repeat (first | replace H := grd_k H | replace H := out_step H (by assumption) | replace H := outm_out H)); first | (replace H := joinx_some H; rcases H with ⟨z, hz, H⟩ | H; rotate_left; (with_reducible refine CutC.no ?_); rotate_right; (refine CutC.mk (id := 5) ⟨sl [(1, (.loc 0 0 0))], [some (.box 25 [(.v (.int .i64 a0.1)), (.v (.int .i64 a0.2.1)), (.v (.int .i64 a0.2.2.1)), (.v (.int .i64 a0.2.2.2.1)), (.v (.int .i64 a0.2.2.2.2.1)), (.v (.string a0.2.2.2.2.2.1))])]⟩ ?_ ?_; (replace H := hz))))
        | ((repeat (first | replace H := grd_k H | replace H := out_step H (by assumption) | replace H := outm_out H)); have H := Option.some.inj H; subst H; with_reducible refine sub_auto ?_)
        | ((repeat (first | replace H := grd_k H | replace H := out_step H (by assumption) | replace H := outm_out H)); have H := go_inj H; subst H; with_reducible refine sub_auto ?_)
        | ((repeat (first | replace H := grd_k H | replace H := out_step H (by assumption) | replace H := outm_out H)); exact (go_out H).elim)
        | ((with_reducible refine fin_mk ?_); (repeat (first | replace H := grd_k H | replace H := out_step H (by assumption) | replace H := outm_out H)); have H := Option.some.inj H; subst H))
    | constructor
def G13 : Env := G12.add 8 [] impl_IsDayRow.S
theorem G13_ok : EnvOk Tryd.prog G13 := G12_ok.add ent_8 fun ar h r h1 ⟨a0, y, hy, e1, e2, e3, e4⟩ => by
  subst e3 e4; exact (impl_IsDayRow.spec a0 y hy).le e1 e2
attribute [local irreducible] impl_IsDayRow

noncomputable def strconv_Itoa (a0 : Int) : Option (ByteArray) :=
  (grd (-9223372036854775808 ≤ a0 ∧ a0 ≤ 9223372036854775807) ((some (itoaB a0))))
def strconv_Itoa.res (_ : Int) (y : ByteArray) : AV := (.v (.string y))
def strconv_Itoa.out (_ : Int) (_ : ByteArray) : List (Option LB) := []
def strconv_Itoa.S (ar : List AV) (h : List (Option LB)) (r : AV) (h1 : List (Option LB)) : Prop := ∃ a0 y, strconv_Itoa a0 = some y ∧ leL ar [(.v (.int .i64 a0))] ∧ leH h [] ∧ r = strconv_Itoa.res a0 y ∧ h1 = strconv_Itoa.out a0 y
theorem strconv_Itoa.call {ar : List AV} {h : List (Option LB)} {a0 : Int} {y : ByteArray} (H : strconv_Itoa a0 = some y) (h0 : leLk ar [(.v (.int .i64 a0))] (leHk h [])) : strconv_Itoa.S ar h (strconv_Itoa.res a0 y) (strconv_Itoa.out a0 y) := ⟨a0, y, H, (args_ok h0).1, (args_ok h0).2, rfl, rfl⟩
theorem strconv_Itoa.spec (a0 : Int) (y : ByteArray) (H : strconv_Itoa a0 = some y) : Spec Tryd.prog 40 [(.v (.int .i64 a0))] [] (strconv_Itoa.res a0 y) (strconv_Itoa.out a0 y) := by
  have hg := grd_p H
  have H := Option.some.inj (grd_k H)
  subst H
  exact ext_strconv_Itoa a0 hg
def G14 : Env := G13.add 40 [] strconv_Itoa.S
theorem G14_ok : EnvOk Tryd.prog G14 := G13_ok.add ent_40 fun ar h r h1 ⟨a0, y, hy, e1, e2, e3, e4⟩ => by
  subst e3 e4; exact (strconv_Itoa.spec a0 y hy).le e1 e2
attribute [local irreducible] strconv_Itoa

end Go.Proofs.YtjpnifmbgemibaaDoor
