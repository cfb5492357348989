/-
  Contracts, printed by a program.
-/
import Derived.Test.YtaajchikfgbecaaC721
namespace Go.Proofs.Ytaajchikfgbecaa
open Go.RowKit
attribute [local irreducible] Ob loopwp Sub Spec Fin Again CallW CutC KOb iter joinx outm

attribute [local irreducible] laws_rBig spec_l1Cur_next spec_l1Cur_pick spec_l1Cur_among spec_l1Cur_one spec_l1Cur_weather spec_l1Cur_records

noncomputable def spec_DrawCalmSpans (a0 : (List Int)) : Option ((List Weather) × Int) :=
  ((spec_l1Cur_records (a0, (0 : Int), (0 : Int), ())).bind fun y1 => ((spec_l1Cur_pick (y1.2.1, y1.2.2.1, y1.2.2.2.1, ()) (24 : Int)).bind fun y2 => (grd ((11 : Int) ≠ 0) (grd (0 ≤ (0 : Int) ∧ (0 : Int) ≤ (w64 ((5 : Int) + (w64 (Int.tdiv y2.1 (11 : Int))))) ∧ (w64 ((5 : Int) + (w64 (Int.tdiv y2.1 (11 : Int))))) ≤ ([(0 : Int), (49 : Int), (50 : Int), (125 : Int), (600 : Int), ((-1) : Int), (601 : Int)].length : Int)) ((spec_l1Cur_among (y2.2.1, y2.2.2.1, y2.2.2.2.1, ()) (([(0 : Int), (49 : Int), (50 : Int), (125 : Int), (600 : Int), ((-1) : Int), (601 : Int)].drop ((0 : Int).toNat)).take (((w64 ((5 : Int) + (w64 (Int.tdiv y2.1 (11 : Int))))) - (0 : Int)).toNat))).bind fun y3 => (some (y1.1, y3.1)))))))
def spec_DrawCalmSpans.res (_ : (List Int)) (y : (List Weather) × Int) : AV := (.tup [(.own 0), (.v (.int .i64 y.2))])
def spec_DrawCalmSpans.out (_ : (List Int)) (y : (List Weather) × Int) : List (Option LB) := [some (.arr 48 ty_Weather y.1)]
def spec_DrawCalmSpans.S (ar : List AV) (h : List (Option LB)) (r : AV) (h1 : List (Option LB)) : Prop := ∃ a0 y, spec_DrawCalmSpans a0 = some y ∧ leL ar [(.tree (.int .u8) a0)] ∧ leH h [] ∧ r = spec_DrawCalmSpans.res a0 y ∧ h1 = spec_DrawCalmSpans.out a0 y
theorem spec_DrawCalmSpans.call {ar : List AV} {h : List (Option LB)} {a0 : (List Int)} {y : (List Weather) × Int} (H : spec_DrawCalmSpans a0 = some y) (h0 : leLk ar [(.tree (.int .u8) a0)] (leHk h [])) : spec_DrawCalmSpans.S ar h (spec_DrawCalmSpans.res a0 y) (spec_DrawCalmSpans.out a0 y) := ⟨a0, y, H, (args_ok h0).1, (args_ok h0).2, rfl, rfl⟩
set_option maxHeartbeats 100000000 in
set_option maxRecDepth 100000 in
theorem spec_DrawCalmSpans.spec (a0 : (List Int)) (y : (List Weather) × Int) (H : spec_DrawCalmSpans a0 = some y) : Spec Try.prog 17 [(.tree (.int .u8) a0)] [] (spec_DrawCalmSpans.res a0 y) (spec_DrawCalmSpans.out a0 y) := by
  refine spec_intro (G7_ok.at tok []) (ct := []) Try.func17 rfl (by kernel_rfl) (by kernel_rfl) rfl ?_
  repeat' first
    | ((with_reducible refine eqg ?_); exact rfl)
    | ((with_reducible refine KOb.mk ?_); kernel_rfl)
    | ((with_reducible intro h); (repeat (first | replace H := grd_k H | replace H := out_step H (by assumption))); first | replace H := cond_t h H | replace H := cond_f h H | exact absurd h (by decide) | skip)
    | ((with_reducible refine Ob.mk ?_); first | (with_reducible rfl) | (first | ((repeat (first | (with_reducible exact grd_p H) | (replace H := grd_k H) | (replace H := out_step H (by assumption)))); done) | rfl | ((repeat (first | exact grd_p H | replace H := grd_k H | replace H := out_step H (by assumption))); done) | ((repeat (first | exact grd_p H | (have hp := grd_p H; exact hp) | replace H := grd_k H | replace H := out_step H (by assumption) | (replace H := bind_some H; obtain ⟨_, _, H⟩ := H))); done) | (repeat (first | exact grd_p H | replace H := grd_k H | replace H := out_step H (by assumption)))))
    | (with_reducible exact True.intro)
    | ((conv => whnf); first
        | (with_reducible refine And.intro ?_ ?_)
        | (with_reducible exact True.intro)
        | ((with_reducible refine Ob.mk ?_); first | (with_reducible rfl) | (first | ((repeat (first | (with_reducible exact grd_p H) | (replace H := grd_k H) | (replace H := out_step H (by assumption)))); done) | rfl | ((repeat (first | exact grd_p H | replace H := grd_k H | replace H := out_step H (by assumption))); done) | ((repeat (first | exact grd_p H | (have hp := grd_p H; exact hp) | replace H := grd_k H | replace H := out_step H (by assumption) | (replace H := bind_some H; obtain ⟨_, _, H⟩ := H))); done) | (repeat (first | exact grd_p H | replace H := grd_k H | replace H := out_step H (by assumption)))))
        | ((with_reducible refine CallW.mk ?_); (repeat (first | replace H := grd_k H | replace H := out_step H (by assumption))); replace H := bind_some H; obtain ⟨y, hy, H⟩ := H; first | ((with_reducible have hz : spec_l1Cur_records _ = some y := hy); clear hz; refine Exists.intro _ (Exists.intro _ ⟨spec_l1Cur_records.call hy ?_, rfl, rfl, ?_⟩)) | ((with_reducible have hz : spec_l1Cur_pick _ _ = some y := hy); clear hz; refine Exists.intro _ (Exists.intro _ ⟨spec_l1Cur_pick.call hy ?_, rfl, rfl, ?_⟩)) | ((with_reducible have hz : spec_l1Cur_among _ _ = some y := hy); clear hz; refine Exists.intro _ (Exists.intro _ ⟨spec_l1Cur_among.call hy ?_, rfl, rfl, ?_⟩)))
        | ((with_reducible refine fin_mk ?_); (repeat (first | replace H := grd_k H | replace H := out_step H (by assumption))); have H := Option.some.inj H; subst H))
    | constructor
def G8 : Env := G7.add 17 [] spec_DrawCalmSpans.S
theorem G8_ok : EnvOk Try.prog G8 := G7_ok.add ent_17 fun ar h r h1 ⟨a0, y, hy, e1, e2, e3, e4⟩ => by
  subst e3 e4; exact (spec_DrawCalmSpans.spec a0 y hy).le e1 e2
attribute [local irreducible] spec_DrawCalmSpans

noncomputable def impl_within (a0 : Int) (a1 : Int) (a2 : Int) : Option (Bool) :=
  (cond (decide (a1 ≤ a0)) ((some (decide (a0 ≤ a2)))) ((some false)))
def impl_within.res (_ : Int) (_ : Int) (_ : Int) (y : Bool) : AV := (.bl y)
def impl_within.out (_ : Int) (_ : Int) (_ : Int) (_ : Bool) : List (Option LB) := []
def impl_within.S (ar : List AV) (h : List (Option LB)) (r : AV) (h1 : List (Option LB)) : Prop := ∃ a0 a1 a2 y, impl_within a0 a1 a2 = some y ∧ leL ar [(.v (.int .i64 a0)), (.v (.int .i64 a1)), (.v (.int .i64 a2))] ∧ leH h [] ∧ r = impl_within.res a0 a1 a2 y ∧ h1 = impl_within.out a0 a1 a2 y
theorem impl_within.call {ar : List AV} {h : List (Option LB)} {a0 : Int} {a1 : Int} {a2 : Int} {y : Bool} (H : impl_within a0 a1 a2 = some y) (h0 : leLk ar [(.v (.int .i64 a0)), (.v (.int .i64 a1)), (.v (.int .i64 a2))] (leHk h [])) : impl_within.S ar h (impl_within.res a0 a1 a2 y) (impl_within.out a0 a1 a2 y) := ⟨a0, a1, a2, y, H, (args_ok h0).1, (args_ok h0).2, rfl, rfl⟩
set_option maxHeartbeats 100000000 in
set_option maxRecDepth 100000 in
theorem impl_within.spec (a0 : Int) (a1 : Int) (a2 : Int) (y : Bool) (H : impl_within a0 a1 a2 = some y) : Spec Try.prog 49 [(.v (.int .i64 a0)), (.v (.int .i64 a1)), (.v (.int .i64 a2))] [] (impl_within.res a0 a1 a2 y) (impl_within.out a0 a1 a2 y) := by
  refine spec_intro (G8_ok.at tok []) (ct := []) Try.func49 rfl (by kernel_rfl) (by kernel_rfl) rfl ?_
  repeat' first
    | ((with_reducible refine eqg ?_); exact rfl)
    | ((with_reducible refine KOb.mk ?_); kernel_rfl)
    | ((with_reducible intro h); (repeat (first | replace H := grd_k H | replace H := out_step H (by assumption))); first | replace H := cond_t h H | replace H := cond_f h H | exact absurd h (by decide) | skip)
    | ((with_reducible refine Ob.mk ?_); first | (with_reducible rfl) | (first | ((repeat (first | (with_reducible exact grd_p H) | (replace H := grd_k H) | (replace H := out_step H (by assumption)))); done) | rfl | ((repeat (first | exact grd_p H | replace H := grd_k H | replace H := out_step H (by assumption))); done) | ((repeat (first | exact grd_p H | (have hp := grd_p H; exact hp) | replace H := grd_k H | replace H := out_step H (by assumption) | (replace H := bind_some H; obtain ⟨_, _, H⟩ := H))); done) | (repeat (first | exact grd_p H | replace H := grd_k H | replace H := out_step H (by assumption)))))
    | (with_reducible exact True.intro)
    | ((conv => whnf); first
        | (with_reducible refine And.intro ?_ ?_)
        | (with_reducible exact True.intro)
        | ((with_reducible refine Ob.mk ?_); first | (with_reducible rfl) | (first | ((repeat (first | (with_reducible exact grd_p H) | (replace H := grd_k H) | (replace H := out_step H (by assumption)))); done) | rfl | ((repeat (first | exact grd_p H | replace H := grd_k H | replace H := out_step H (by assumption))); done) | ((repeat (first | exact grd_p H | (have hp := grd_p H; exact hp) | replace H := grd_k H | replace H := out_step H (by assumption) | (replace H := bind_some H; obtain ⟨_, _, H⟩ := H))); done) | (repeat (first | exact grd_p H | replace H := grd_k H | replace H := out_step H (by assumption)))))
        | ((with_reducible refine fin_mk ?_); (repeat (first | replace H := grd_k H | replace H := out_step H (by assumption))); have H := Option.some.inj H; subst H))
    | constructor
def G9 : Env := G8.add 49 [] impl_within.S
theorem G9_ok : EnvOk Try.prog G9 := G8_ok.add ent_49 fun ar h r h1 ⟨a0, a1, a2, y, hy, e1, e2, e3, e4⟩ => by
  subst e3 e4; exact (impl_within.spec a0 a1 a2 y hy).le e1 e2
attribute [local irreducible] impl_within

noncomputable def impl_IsWeather (a0 : Weather) : Option (Bool) :=
  ((impl_within a0.1 (0 : Int) (9999 : Int)).bind fun y1 => (cond y1 ((impl_within a0.2.1 (0 : Int) (600 : Int)).bind fun y2 => (cond y2 ((impl_within a0.2.2.1 (0 : Int) (359 : Int)).bind fun y3 => (cond y3 ((impl_within a0.2.2.2.1 ((-400) : Int) (500 : Int)).bind fun y4 => (some y4)) ((some false)))) ((some false)))) ((some false))))
def impl_IsWeather.res (_ : Weather) (y : Bool) : AV := (.bl y)
def impl_IsWeather.out (_ : Weather) (_ : Bool) : List (Option LB) := []
def impl_IsWeather.S (ar : List AV) (h : List (Option LB)) (r : AV) (h1 : List (Option LB)) : Prop := ∃ a0 y, impl_IsWeather a0 = some y ∧ leL ar [(.agg [(.v (.int .i64 a0.1)), (.v (.int .i64 a0.2.1)), (.v (.int .i64 a0.2.2.1)), (.v (.int .i64 a0.2.2.2.1)), (.bl a0.2.2.2.2.1)])] ∧ leH h [] ∧ r = impl_IsWeather.res a0 y ∧ h1 = impl_IsWeather.out a0 y
theorem impl_IsWeather.call {ar : List AV} {h : List (Option LB)} {a0 : Weather} {y : Bool} (H : impl_IsWeather a0 = some y) (h0 : leLk ar [(.agg [(.v (.int .i64 a0.1)), (.v (.int .i64 a0.2.1)), (.v (.int .i64 a0.2.2.1)), (.v (.int .i64 a0.2.2.2.1)), (.bl a0.2.2.2.2.1)])] (leHk h [])) : impl_IsWeather.S ar h (impl_IsWeather.res a0 y) (impl_IsWeather.out a0 y) := ⟨a0, y, H, (args_ok h0).1, (args_ok h0).2, rfl, rfl⟩
set_option maxHeartbeats 100000000 in
set_option maxRecDepth 100000 in
theorem impl_IsWeather.spec (a0 : Weather) (y : Bool) (H : impl_IsWeather a0 = some y) : Spec Try.prog 65 [(.agg [(.v (.int .i64 a0.1)), (.v (.int .i64 a0.2.1)), (.v (.int .i64 a0.2.2.1)), (.v (.int .i64 a0.2.2.2.1)), (.bl a0.2.2.2.2.1)])] [] (impl_IsWeather.res a0 y) (impl_IsWeather.out a0 y) := by
  refine spec_intro (G9_ok.at tok []) (ct := []) Try.func65 rfl (by kernel_rfl) (by kernel_rfl) rfl ?_
  repeat' first
    | ((with_reducible refine eqg ?_); exact rfl)
    | ((with_reducible refine KOb.mk ?_); kernel_rfl)
    | ((with_reducible intro h); (repeat (first | replace H := grd_k H | replace H := out_step H (by assumption))); first | replace H := cond_t h H | replace H := cond_f h H | exact absurd h (by decide) | skip)
    | ((with_reducible refine Ob.mk ?_); first | (with_reducible rfl) | (first | ((repeat (first | (with_reducible exact grd_p H) | (replace H := grd_k H) | (replace H := out_step H (by assumption)))); done) | rfl | ((repeat (first | exact grd_p H | replace H := grd_k H | replace H := out_step H (by assumption))); done) | ((repeat (first | exact grd_p H | (have hp := grd_p H; exact hp) | replace H := grd_k H | replace H := out_step H (by assumption) | (replace H := bind_some H; obtain ⟨_, _, H⟩ := H))); done) | (repeat (first | exact grd_p H | replace H := grd_k H | replace H := out_step H (by assumption)))))
    | (with_reducible exact True.intro)
    | ((conv => whnf); first
        | (with_reducible refine And.intro ?_ ?_)
        | (with_reducible exact True.intro)
        | ((with_reducible refine Ob.mk ?_); first | (with_reducible rfl) | (first | ((repeat (first | (with_reducible exact grd_p H) | (replace H := grd_k H) | (replace H := out_step H (by assumption)))); done) | rfl | ((repeat (first | exact grd_p H | replace H := grd_k H | replace H := out_step H (by assumption))); done) | ((repeat (first | exact grd_p H | (have hp := grd_p H; exact hp) | replace H := grd_k H | replace H := out_step H (by assumption) | (replace H := bind_some H; obtain ⟨_, _, H⟩ := H))); done) | (repeat (first | exact grd_p H | replace H := grd_k H | replace H := out_step H (by assumption)))))
        | ((with_reducible refine CallW.mk ?_); (repeat (first | replace H := grd_k H | replace H := out_step H (by assumption))); replace H := bind_some H; obtain ⟨y, hy, H⟩ := H; first | ((with_reducible have hz : impl_within _ _ _ = some y := hy); clear hz; refine Exists.intro _ (Exists.intro _ ⟨impl_within.call hy ?_, rfl, rfl, ?_⟩)))
        | ((with_reducible refine fin_mk ?_); (repeat (first | replace H := grd_k H | replace H := out_step H (by assumption))); have H := Option.some.inj H; subst H))
    | constructor
def G10 : Env := G9.add 65 [] impl_IsWeather.S
theorem G10_ok : EnvOk Try.prog G10 := G9_ok.add ent_65 fun ar h r h1 ⟨a0, y, hy, e1, e2, e3, e4⟩ => by
  subst e3 e4; exact (impl_IsWeather.spec a0 y hy).le e1 e2
attribute [local irreducible] impl_IsWeather

noncomputable def impl_AreRecords_loop1 (a0 : (List Weather)) (v5 : Int) : Option (Lp (Int) ((Unit) ⊕ (Unit))) :=
  (cond (decide (v5 < (a0.length : Int))) (grd (0 ≤ v5 ∧ v5 < (a0.length : Int)) ((impl_IsWeather ((a0.getD v5.toNat d_Weather).1, (a0.getD v5.toNat d_Weather).2.1, (a0.getD v5.toNat d_Weather).2.2.1, (a0.getD v5.toNat d_Weather).2.2.2.1, (a0.getD v5.toNat d_Weather).2.2.2.2.1, ())).bind fun y6 => (cond (!y6) ((some (.out (Sum.inl ())))) (cond (decide ((0 : Int) < v5)) (grd (0 ≤ (w64 (v5 - (1 : Int))) ∧ (w64 (v5 - (1 : Int))) < (a0.length : Int)) (cond (decide (((a0.getD v5.toNat d_Weather).1) ≤ ((a0.getD ((w64 (v5 - (1 : Int))).toNat) d_Weather).1))) ((some (.out (Sum.inl ())))) (some (.go (w64 (v5 + (1 : Int))))))) (some (.go (w64 (v5 + (1 : Int))))))))) ((some (.out (Sum.inr ())))))
noncomputable def impl_AreRecords (a0 : (List Weather)) : Option (Bool) :=
  ((iter (fun s => impl_AreRecords_loop1 a0 s) (0 : Int)).bind (Sum.elim (fun _ => (some false)) (fun _ => (some (decide ((a0.length : Int) ≤ (20 : Int)))))))
def impl_AreRecords.res (_ : (List Weather)) (y : Bool) : AV := (.bl y)
def impl_AreRecords.out (_ : (List Weather)) (_ : Bool) : List (Option LB) := []
def impl_AreRecords.S (ar : List AV) (h : List (Option LB)) (r : AV) (h1 : List (Option LB)) : Prop := ∃ a0 y, impl_AreRecords a0 = some y ∧ leL ar [(.tree ty_Weather a0)] ∧ leH h [] ∧ r = impl_AreRecords.res a0 y ∧ h1 = impl_AreRecords.out a0 y
theorem impl_AreRecords.call {ar : List AV} {h : List (Option LB)} {a0 : (List Weather)} {y : Bool} (H : impl_AreRecords a0 = some y) (h0 : leLk ar [(.tree ty_Weather a0)] (leHk h [])) : impl_AreRecords.S ar h (impl_AreRecords.res a0 y) (impl_AreRecords.out a0 y) := ⟨a0, y, H, (args_ok h0).1, (args_ok h0).2, rfl, rfl⟩
set_option maxHeartbeats 100000000 in
set_option maxRecDepth 100000 in
theorem impl_AreRecords.spec (a0 : (List Weather)) (y : Bool) (H : impl_AreRecords a0 = some y) : Spec Try.prog 48 [(.tree ty_Weather a0)] [] (impl_AreRecords.res a0 y) (impl_AreRecords.out a0 y) := by
  refine spec_intro (G10_ok.at tok []) (ct := [(5, some [0, 5, 6, 7, 16, 17, 18, 19, 20, 21, 22, 23, 24, 25, 26, 27, 28, 29])]) Try.func48 rfl (by kernel_rfl) (by kernel_rfl) rfl ?_
  repeat' first
    | ((with_reducible refine eqg ?_); exact rfl)
    | ((with_reducible refine KOb.mk ?_); kernel_rfl)
    | ((with_reducible intro h); (repeat (first | replace H := grd_k H | replace H := out_step H (by assumption))); first | replace H := cond_t h H | replace H := cond_f h H | exact absurd h (by decide) | skip)
    | ((with_reducible refine Ob.mk ?_); first | (with_reducible rfl) | (first | ((repeat (first | (with_reducible exact grd_p H) | (replace H := grd_k H) | (replace H := out_step H (by assumption)))); done) | rfl | ((repeat (first | exact grd_p H | replace H := grd_k H | replace H := out_step H (by assumption))); done) | ((repeat (first | exact grd_p H | (have hp := grd_p H; exact hp) | replace H := grd_k H | replace H := out_step H (by assumption) | (replace H := bind_some H; obtain ⟨_, _, H⟩ := H))); done) | (repeat (first | exact grd_p H | replace H := grd_k H | replace H := out_step H (by assumption)))))
    | (with_reducible exact True.intro)
    | ((conv => whnf); first
        | (with_reducible refine And.intro ?_ ?_)
        | (with_reducible exact True.intro)
        | ((with_reducible refine Ob.mk ?_); first | (with_reducible rfl) | (first | ((repeat (first | (with_reducible exact grd_p H) | (replace H := grd_k H) | (replace H := out_step H (by assumption)))); done) | rfl | ((repeat (first | exact grd_p H | replace H := grd_k H | replace H := out_step H (by assumption))); done) | ((repeat (first | exact grd_p H | (have hp := grd_p H; exact hp) | replace H := grd_k H | replace H := out_step H (by assumption) | (replace H := bind_some H; obtain ⟨_, _, H⟩ := H))); done) | (repeat (first | exact grd_p H | replace H := grd_k H | replace H := out_step H (by assumption)))))
        | ((with_reducible refine CallW.mk ?_); (repeat (first | replace H := grd_k H | replace H := out_step H (by assumption))); replace H := bind_some H; obtain ⟨y, hy, H⟩ := H; first | ((with_reducible have hz : impl_IsWeather _ = some y := hy); clear hz; refine Exists.intro _ (Exists.intro _ ⟨impl_IsWeather.call hy ?_, rfl, rfl, ?_⟩)))
        | ((repeat (first | replace H := grd_k H | replace H := out_step H (by assumption))); refine loop_iter (G10_ok.at tok []) (ct := [(5, some [0, 5, 6, 7, 16, 17, 18, 19, 20, 21, 22, 23, 24, 25, 26, 27, 28, 29])]) (F := (fun s1 : Int => ⟨sl [(0, (.tree ty_Weather a0)), (5, (.tree ty_Weather a0)), (6, (.v (.int .i64 (a0.length : Int)))), (7, (.v (.int .i64 s1)))], []⟩)) (step := (fun s : Int => impl_AreRecords_loop1 _ s)) _ H (by kernel_rfl) (sub_auto ?_) ?_; rotate_left; (intro s1 r v hr H); rotate_right)
        | ((repeat (first | replace H := grd_k H | replace H := out_step H (by assumption))); refine again_step H (by assumption) (sub_auto ?_))
        | ((with_reducible refine fin_mk ?_); (repeat (first | replace H := grd_k H | replace H := out_step H (by assumption))); have H := Option.some.inj H; subst H))
    | constructor
def G11 : Env := G10.add 48 [] impl_AreRecords.S
theorem G11_ok : EnvOk Try.prog G11 := G10_ok.add ent_48 fun ar h r h1 ⟨a0, y, hy, e1, e2, e3, e4⟩ => by
  subst e3 e4; exact (impl_AreRecords.spec a0 y hy).le e1 e2
attribute [local irreducible] impl_AreRecords

noncomputable def impl_CalmSpans_loop1 (a0 : (List Weather)) (a1 : Int) (v6 : Bool) (v7 : Int) (v8 : (List (List Int))) : Option (Lp (Bool × Int × (List (List Int))) (((List (List Int))))) :=
  (cond (decide (v7 < (a0.length : Int))) (grd (0 ≤ v7 ∧ v7 < (a0.length : Int)) (cond (!((a0.getD v7.toNat d_Weather).2.2.2.2.1)) (cond (decide (((a0.getD v7.toNat d_Weather).2.1) ≤ a1)) (cond v6 (grd (0 ≤ (w64 ((v8.length : Int) - (1 : Int))) ∧ (w64 ((v8.length : Int) - (1 : Int))) < (v8.length : Int)) (grd (0 ≤ (1 : Int) ∧ (1 : Int) < ((v8.getD ((w64 ((v8.length : Int) - (1 : Int))).toNat) []).length : Int)) (some (.go ((decide (((a0.getD v7.toNat d_Weather).2.1) ≤ a1)), (w64 (v7 + (1 : Int))), (v8.set ((w64 ((v8.length : Int) - (1 : Int))).toNat) ((v8.getD ((w64 ((v8.length : Int) - (1 : Int))).toNat) []).set ((1 : Int).toNat) ((a0.getD v7.toNat d_Weather).1)))))))) (cond (decide (((a0.getD v7.toNat d_Weather).2.1) ≤ a1)) (grd (v8.length + [[(a0.getD v7.toNat d_Weather).1, (a0.getD v7.toNat d_Weather).1]].length ≤ 140737488355328 / 24 ∧ v8.length + [[(a0.getD v7.toNat d_Weather).1, (a0.getD v7.toNat d_Weather).1]].length ≤ 140737488355328) (some (.go ((decide (((a0.getD v7.toNat d_Weather).2.1) ≤ a1)), (w64 (v7 + (1 : Int))), (v8 ++ [[(a0.getD v7.toNat d_Weather).1, (a0.getD v7.toNat d_Weather).1]]))))) (some (.go ((decide (((a0.getD v7.toNat d_Weather).2.1) ≤ a1)), (w64 (v7 + (1 : Int))), v8))))) (cond (decide (((a0.getD v7.toNat d_Weather).2.1) ≤ a1)) (grd (v8.length + [[(a0.getD v7.toNat d_Weather).1, (a0.getD v7.toNat d_Weather).1]].length ≤ 140737488355328 / 24 ∧ v8.length + [[(a0.getD v7.toNat d_Weather).1, (a0.getD v7.toNat d_Weather).1]].length ≤ 140737488355328) (some (.go ((decide (((a0.getD v7.toNat d_Weather).2.1) ≤ a1)), (w64 (v7 + (1 : Int))), (v8 ++ [[(a0.getD v7.toNat d_Weather).1, (a0.getD v7.toNat d_Weather).1]]))))) (some (.go ((decide (((a0.getD v7.toNat d_Weather).2.1) ≤ a1)), (w64 (v7 + (1 : Int))), v8))))) (some (.go (false, (w64 (v7 + (1 : Int))), v8))))) ((some (.out v8))))
noncomputable def impl_CalmSpans (a0 : (List Weather)) (a1 : Int) : Option ((Unit) ⊕ ((List (List Int)))) :=
  ((impl_AreRecords a0).bind fun y1 => (cond (!y1) ((some (Sum.inl ()))) ((impl_within a1 (0 : Int) (600 : Int)).bind fun y2 => (cond (!y2) ((some (Sum.inl ()))) ((iter (fun s => impl_CalmSpans_loop1 a0 a1 s.1 s.2.1 s.2.2) (false, (0 : Int), ([] : List (List Int)))).bind (fun r9 => (some (Sum.inr r9))))))))
def impl_CalmSpans.res (_ : (List Weather)) (_ : Int) (y : (Unit) ⊕ ((List (List Int)))) : AV := match y with
  | (.inl y) => (.tup [(.v (.slice none 0 0)), (.v (.bool false))])
  | (.inr y) => (.tup [(.own 0), (.v (.bool true))])
def impl_CalmSpans.out (_ : (List Weather)) (_ : Int) (y : (Unit) ⊕ ((List (List Int)))) : List (Option LB) := match y with
  | (.inl y) => []
  | (.inr y) => [some (.nst 42 3 (.int .i64) y)]
def impl_CalmSpans.S (ar : List AV) (h : List (Option LB)) (r : AV) (h1 : List (Option LB)) : Prop := ∃ a0 a1 y, impl_CalmSpans a0 a1 = some y ∧ leL ar [(.tree ty_Weather a0), (.v (.int .i64 a1))] ∧ leH h [] ∧ r = impl_CalmSpans.res a0 a1 y ∧ h1 = impl_CalmSpans.out a0 a1 y
theorem impl_CalmSpans.call {ar : List AV} {h : List (Option LB)} {a0 : (List Weather)} {a1 : Int} {y : (Unit) ⊕ ((List (List Int)))} (H : impl_CalmSpans a0 a1 = some y) (h0 : leLk ar [(.tree ty_Weather a0), (.v (.int .i64 a1))] (leHk h [])) : impl_CalmSpans.S ar h (impl_CalmSpans.res a0 a1 y) (impl_CalmSpans.out a0 a1 y) := ⟨a0, a1, y, H, (args_ok h0).1, (args_ok h0).2, rfl, rfl⟩
set_option maxHeartbeats 100000000 in
set_option maxRecDepth 100000 in
theorem impl_CalmSpans.spec (a0 : (List Weather)) (a1 : Int) (y : (Unit) ⊕ ((List (List Int)))) (H : impl_CalmSpans a0 a1 = some y) : Spec Try.prog 18 [(.tree ty_Weather a0), (.v (.int .i64 a1))] [] (impl_CalmSpans.res a0 a1 y) (impl_CalmSpans.out a0 a1 y) := by
  have hlen : Nat.ble ([] : List (Option LB)).length (impl_CalmSpans.out a0 a1 y).length = true := by
    rcases y with y | y <;> rfl
  refine spec_intro (G11_ok.at tok [19, 57]) (ct := [(4, some [0, 1, 6, 7, 30, 31, 32, 33, 38]), (8, some [1, 6, 7, 9, 10, 20, 21, 22, 30, 31, 32, 33, 38]), (12, some [1, 6, 10, 20, 21, 22, 30, 31, 32, 33, 38])]) Try.func18 rfl (by kernel_rfl) (by kernel_rfl) hlen ?_
  repeat' first
    | ((with_reducible refine eqg ?_); exact rfl)
    | ((with_reducible refine KOb.mk ?_); kernel_rfl)
    | ((with_reducible intro h); (repeat (first | replace H := grd_k H | replace H := out_step H (by assumption))); first | replace H := cond_t h H | replace H := cond_f h H | exact absurd h (by decide) | skip)
    | ((with_reducible refine Ob.mk ?_); first | (with_reducible rfl) | (first | ((repeat (first | (with_reducible exact grd_p H) | (replace H := grd_k H) | (replace H := out_step H (by assumption)))); done) | rfl | ((repeat (first | exact grd_p H | replace H := grd_k H | replace H := out_step H (by assumption))); done) | ((repeat (first | exact grd_p H | (have hp := grd_p H; exact hp) | replace H := grd_k H | replace H := out_step H (by assumption) | (replace H := bind_some H; obtain ⟨_, _, H⟩ := H))); done) | (repeat (first | exact grd_p H | replace H := grd_k H | replace H := out_step H (by assumption)))))
    | (with_reducible exact True.intro)
    | ((conv => whnf); first
        | (with_reducible refine And.intro ?_ ?_)
        | (with_reducible exact True.intro)
        | ((with_reducible refine Ob.mk ?_); first | (with_reducible rfl) | (first | ((repeat (first | (with_reducible exact grd_p H) | (replace H := grd_k H) | (replace H := out_step H (by assumption)))); done) | rfl | ((repeat (first | exact grd_p H | replace H := grd_k H | replace H := out_step H (by assumption))); done) | ((repeat (first | exact grd_p H | (have hp := grd_p H; exact hp) | replace H := grd_k H | replace H := out_step H (by assumption) | (replace H := bind_some H; obtain ⟨_, _, H⟩ := H))); done) | (repeat (first | exact grd_p H | replace H := grd_k H | replace H := out_step H (by assumption)))))
        | ((with_reducible refine CallW.mk ?_); (repeat (first | replace H := grd_k H | replace H := out_step H (by assumption))); replace H := bind_some H; obtain ⟨y, hy, H⟩ := H; first | ((with_reducible have hz : impl_AreRecords _ = some y := hy); clear hz; refine Exists.intro _ (Exists.intro _ ⟨impl_AreRecords.call hy ?_, rfl, rfl, ?_⟩)) | ((with_reducible have hz : impl_within _ _ _ = some y := hy); clear hz; refine Exists.intro _ (Exists.intro _ ⟨impl_within.call hy ?_, rfl, rfl, ?_⟩)))
        | ((repeat (first | replace H := grd_k H | replace H := out_step H (by assumption))); refine loop_iter (G11_ok.at tok [19, 57]) (ct := [(4, some [0, 1, 6, 7, 30, 31, 32, 33, 38]), (8, some [1, 6, 7, 9, 10, 20, 21, 22, 30, 31, 32, 33, 38]), (12, some [1, 6, 10, 20, 21, 22, 30, 31, 32, 33, 38])]) (F := (fun s1 : Bool × Int × (List (List Int)) => ⟨sl [(1, (.v (.int .i64 a1))), (6, (.own 0)), (7, (.bl s1.1)), (20, (.tree ty_Weather a0)), (21, (.v (.int .i64 (a0.length : Int)))), (22, (.v (.int .i64 s1.2.1)))], [some (.nst 42 3 (.int .i64) s1.2.2)]⟩)) (step := (fun s : Bool × Int × (List (List Int)) => impl_CalmSpans_loop1 _ _ s.1 s.2.1 s.2.2)) _ H (by kernel_rfl) (sub_auto ?_) ?_; rotate_left; (intro s1 r v hr H); rotate_right)
        | ((repeat (first | replace H := grd_k H | replace H := out_step H (by assumption))); refine again_step H (by assumption) (sub_auto ?_))
        | ((with_reducible refine fin_mk ?_); (repeat (first | replace H := grd_k H | replace H := out_step H (by assumption))); have H := Option.some.inj H; subst H))
    | constructor
def G12 : Env := G11.add 18 [] impl_CalmSpans.S
theorem G12_ok : EnvOk Try.prog G12 := G11_ok.add ent_18 fun ar h r h1 ⟨a0, a1, y, hy, e1, e2, e3, e4⟩ => by
  subst e3 e4; exact (impl_CalmSpans.spec a0 a1 y hy).le e1 e2
attribute [local irreducible] impl_CalmSpans

noncomputable def spec_l1In (a0 : Int) (a1 : Int) (a2 : Int) : Option (Bool) :=
  (cond (decide (a1 ≤ a0)) ((some (decide (a0 ≤ a2)))) ((some false)))
def spec_l1In.res (_ : Int) (_ : Int) (_ : Int) (y : Bool) : AV := (.bl y)
def spec_l1In.out (_ : Int) (_ : Int) (_ : Int) (_ : Bool) : List (Option LB) := []
def spec_l1In.S (ar : List AV) (h : List (Option LB)) (r : AV) (h1 : List (Option LB)) : Prop := ∃ a0 a1 a2 y, spec_l1In a0 a1 a2 = some y ∧ leL ar [(.v (.int .i64 a0)), (.v (.int .i64 a1)), (.v (.int .i64 a2))] ∧ leH h [] ∧ r = spec_l1In.res a0 a1 a2 y ∧ h1 = spec_l1In.out a0 a1 a2 y
theorem spec_l1In.call {ar : List AV} {h : List (Option LB)} {a0 : Int} {a1 : Int} {a2 : Int} {y : Bool} (H : spec_l1In a0 a1 a2 = some y) (h0 : leLk ar [(.v (.int .i64 a0)), (.v (.int .i64 a1)), (.v (.int .i64 a2))] (leHk h [])) : spec_l1In.S ar h (spec_l1In.res a0 a1 a2 y) (spec_l1In.out a0 a1 a2 y) := ⟨a0, a1, a2, y, H, (args_ok h0).1, (args_ok h0).2, rfl, rfl⟩
set_option maxHeartbeats 100000000 in
set_option maxRecDepth 100000 in
theorem spec_l1In.spec (a0 : Int) (a1 : Int) (a2 : Int) (y : Bool) (H : spec_l1In a0 a1 a2 = some y) : Spec Try.prog 54 [(.v (.int .i64 a0)), (.v (.int .i64 a1)), (.v (.int .i64 a2))] [] (spec_l1In.res a0 a1 a2 y) (spec_l1In.out a0 a1 a2 y) := by
  refine spec_intro (G12_ok.at tok []) (ct := []) Try.func54 rfl (by kernel_rfl) (by kernel_rfl) rfl ?_
  repeat' first
    | ((with_reducible refine eqg ?_); exact rfl)
    | ((with_reducible refine KOb.mk ?_); kernel_rfl)
    | ((with_reducible intro h); (repeat (first | replace H := grd_k H | replace H := out_step H (by assumption))); first | replace H := cond_t h H | replace H := cond_f h H | exact absurd h (by decide) | skip)
    | ((with_reducible refine Ob.mk ?_); first | (with_reducible rfl) | (first | ((repeat (first | (with_reducible exact grd_p H) | (replace H := grd_k H) | (replace H := out_step H (by assumption)))); done) | rfl | ((repeat (first | exact grd_p H | replace H := grd_k H | replace H := out_step H (by assumption))); done) | ((repeat (first | exact grd_p H | (have hp := grd_p H; exact hp) | replace H := grd_k H | replace H := out_step H (by assumption) | (replace H := bind_some H; obtain ⟨_, _, H⟩ := H))); done) | (repeat (first | exact grd_p H | replace H := grd_k H | replace H := out_step H (by assumption)))))
    | (with_reducible exact True.intro)
    | ((conv => whnf); first
        | (with_reducible refine And.intro ?_ ?_)
        | (with_reducible exact True.intro)
        | ((with_reducible refine Ob.mk ?_); first | (with_reducible rfl) | (first | ((repeat (first | (with_reducible exact grd_p H) | (replace H := grd_k H) | (replace H := out_step H (by assumption)))); done) | rfl | ((repeat (first | exact grd_p H | replace H := grd_k H | replace H := out_step H (by assumption))); done) | ((repeat (first | exact grd_p H | (have hp := grd_p H; exact hp) | replace H := grd_k H | replace H := out_step H (by assumption) | (replace H := bind_some H; obtain ⟨_, _, H⟩ := H))); done) | (repeat (first | exact grd_p H | replace H := grd_k H | replace H := out_step H (by assumption)))))
        | ((with_reducible refine fin_mk ?_); (repeat (first | replace H := grd_k H | replace H := out_step H (by assumption))); have H := Option.some.inj H; subst H))
    | constructor
def G13 : Env := G12.add 54 [] spec_l1In.S
theorem G13_ok : EnvOk Try.prog G13 := G12_ok.add ent_54 fun ar h r h1 ⟨a0, a1, a2, y, hy, e1, e2, e3, e4⟩ => by
  subst e3 e4; exact (spec_l1In.spec a0 a1 a2 y hy).le e1 e2
attribute [local irreducible] spec_l1In

noncomputable def spec_l17Minute (a0 : Int) : Option (Bool) :=
  ((spec_l1In a0 (0 : Int) (9999 : Int)).bind fun y1 => (some y1))
def spec_l17Minute.res (_ : Int) (y : Bool) : AV := (.bl y)
def spec_l17Minute.out (_ : Int) (_ : Bool) : List (Option LB) := []
def spec_l17Minute.S (ar : List AV) (h : List (Option LB)) (r : AV) (h1 : List (Option LB)) : Prop := ∃ a0 y, spec_l17Minute a0 = some y ∧ leL ar [(.v (.int .i64 a0))] ∧ leH h [] ∧ r = spec_l17Minute.res a0 y ∧ h1 = spec_l17Minute.out a0 y
theorem spec_l17Minute.call {ar : List AV} {h : List (Option LB)} {a0 : Int} {y : Bool} (H : spec_l17Minute a0 = some y) (h0 : leLk ar [(.v (.int .i64 a0))] (leHk h [])) : spec_l17Minute.S ar h (spec_l17Minute.res a0 y) (spec_l17Minute.out a0 y) := ⟨a0, y, H, (args_ok h0).1, (args_ok h0).2, rfl, rfl⟩
set_option maxHeartbeats 100000000 in
set_option maxRecDepth 100000 in
theorem spec_l17Minute.spec (a0 : Int) (y : Bool) (H : spec_l17Minute a0 = some y) : Spec Try.prog 53 [(.v (.int .i64 a0))] [] (spec_l17Minute.res a0 y) (spec_l17Minute.out a0 y) := by
  refine spec_intro (G13_ok.at tok []) (ct := []) Try.func53 rfl (by kernel_rfl) (by kernel_rfl) rfl ?_
  repeat' first
    | ((with_reducible refine eqg ?_); exact rfl)
    | ((with_reducible refine KOb.mk ?_); kernel_rfl)
    | ((with_reducible intro h); (repeat (first | replace H := grd_k H | replace H := out_step H (by assumption))); first | replace H := cond_t h H | replace H := cond_f h H | exact absurd h (by decide) | skip)
    | ((with_reducible refine Ob.mk ?_); first | (with_reducible rfl) | (first | ((repeat (first | (with_reducible exact grd_p H) | (replace H := grd_k H) | (replace H := out_step H (by assumption)))); done) | rfl | ((repeat (first | exact grd_p H | replace H := grd_k H | replace H := out_step H (by assumption))); done) | ((repeat (first | exact grd_p H | (have hp := grd_p H; exact hp) | replace H := grd_k H | replace H := out_step H (by assumption) | (replace H := bind_some H; obtain ⟨_, _, H⟩ := H))); done) | (repeat (first | exact grd_p H | replace H := grd_k H | replace H := out_step H (by assumption)))))
    | (with_reducible exact True.intro)
    | ((conv => whnf); first
        | (with_reducible refine And.intro ?_ ?_)
        | (with_reducible exact True.intro)
        | ((with_reducible refine Ob.mk ?_); first | (with_reducible rfl) | (first | ((repeat (first | (with_reducible exact grd_p H) | (replace H := grd_k H) | (replace H := out_step H (by assumption)))); done) | rfl | ((repeat (first | exact grd_p H | replace H := grd_k H | replace H := out_step H (by assumption))); done) | ((repeat (first | exact grd_p H | (have hp := grd_p H; exact hp) | replace H := grd_k H | replace H := out_step H (by assumption) | (replace H := bind_some H; obtain ⟨_, _, H⟩ := H))); done) | (repeat (first | exact grd_p H | replace H := grd_k H | replace H := out_step H (by assumption)))))
        | ((with_reducible refine CallW.mk ?_); (repeat (first | replace H := grd_k H | replace H := out_step H (by assumption))); replace H := bind_some H; obtain ⟨y, hy, H⟩ := H; first | ((with_reducible have hz : spec_l1In _ _ _ = some y := hy); clear hz; refine Exists.intro _ (Exists.intro _ ⟨spec_l1In.call hy ?_, rfl, rfl, ?_⟩)))
        | ((with_reducible refine fin_mk ?_); (repeat (first | replace H := grd_k H | replace H := out_step H (by assumption))); have H := Option.some.inj H; subst H))
    | constructor
def G14 : Env := G13.add 53 [] spec_l17Minute.S
theorem G14_ok : EnvOk Try.prog G14 := G13_ok.add ent_53 fun ar h r h1 ⟨a0, y, hy, e1, e2, e3, e4⟩ => by
  subst e3 e4; exact (spec_l17Minute.spec a0 y hy).le e1 e2
attribute [local irreducible] spec_l17Minute

end Go.Proofs.Ytaajchikfgbecaa
