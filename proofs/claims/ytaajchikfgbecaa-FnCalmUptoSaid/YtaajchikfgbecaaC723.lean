/-
  Contracts, printed by a program.
-/
import Derived.Test.YtaajchikfgbecaaC722
namespace Go.Proofs.Ytaajchikfgbecaa
open Go.RowKit
attribute [local irreducible] Ob loopwp Sub Spec Fin Again CallW CutC KOb iter joinx outm

attribute [local irreducible] laws_rBig spec_l1Cur_next spec_l1Cur_pick spec_l1Cur_among spec_l1Cur_one spec_l1Cur_weather spec_l1Cur_records spec_DrawCalmSpans impl_within impl_IsWeather impl_AreRecords impl_CalmSpans spec_l1In spec_l17Minute

noncomputable def spec_l17Wind (a0 : Int) : Option (Bool) :=
  ((spec_l1In a0 (0 : Int) (600 : Int)).bind fun y1 => (some y1))
def spec_l17Wind.res (_ : Int) (y : Bool) : AV := (.bl y)
def spec_l17Wind.out (_ : Int) (_ : Bool) : List (Option LB) := []
def spec_l17Wind.S (ar : List AV) (h : List (Option LB)) (r : AV) (h1 : List (Option LB)) : Prop := ∃ a0 y, spec_l17Wind a0 = some y ∧ leL ar [(.v (.int .i64 a0))] ∧ leH h [] ∧ r = spec_l17Wind.res a0 y ∧ h1 = spec_l17Wind.out a0 y
theorem spec_l17Wind.call {ar : List AV} {h : List (Option LB)} {a0 : Int} {y : Bool} (H : spec_l17Wind a0 = some y) (h0 : leLk ar [(.v (.int .i64 a0))] (leHk h [])) : spec_l17Wind.S ar h (spec_l17Wind.res a0 y) (spec_l17Wind.out a0 y) := ⟨a0, y, H, (args_ok h0).1, (args_ok h0).2, rfl, rfl⟩
set_option maxHeartbeats 100000000 in
set_option maxRecDepth 100000 in
theorem spec_l17Wind.spec (a0 : Int) (y : Bool) (H : spec_l17Wind a0 = some y) : Spec Try.prog 51 [(.v (.int .i64 a0))] [] (spec_l17Wind.res a0 y) (spec_l17Wind.out a0 y) := by
  refine spec_intro (G14_ok.at tok []) (ct := []) Try.func51 rfl (by kernel_rfl) (by kernel_rfl) rfl ?_
  repeat' first
    | ((with_reducible refine eqg ?_); exact rfl)
    | ((with_reducible refine KOb.mk ?_); kernel_rfl)
    | ((with_reducible intro h); (repeat (first | replace H := grd_k H | replace H := out_step H (by assumption))); first | replace H := cond_t h H | replace H := cond_f h H | exact absurd h (by decide) | skip)
    | ((with_reducible refine Ob.mk ?_); first | (with_reducible rfl) | (first | ((repeat (first | (with_reducible exact grd_p H) | (replace H := grd_k H) | (replace H := out_step H (by assumption)))); done) | rfl | ((repeat (first | exact grd_p H | replace H := grd_k H | replace H := out_step H (by assumption))); done) | ((repeat (first | exact grd_p H | (have hp := grd_p H; exact hp) | replace H := grd_k H | replace H := out_step H (by assumption) | (replace H := bind_some H; obtain ⟨_, _, H⟩ := H))); done) | (repeat (first | exact grd_p H | replace H := grd_k H | replace H := out_step H (by assumption)))))
    | (with_reducible exact True.intro)
    | ((conv => whnf); first
        | (with_reducible refine And.intro ?_ ?_)
        | (with_reducible exact True.intro)
        | ((with_reducible refine Ob.mk ?_); first | (with_reducible rfl) | (first | ((repeat (first | (with_reducible exact grd_p H) | (replace H := grd_k H) | (replace H := out_step H (by assumption)))); done) | rfl | ((repeat (first | exact grd_p H | replace H := grd_k H | replace H := out_step H (by assumption))); done) | ((repeat (first | exact grd_p H | (have hp := grd_p H; exact hp) | replace H := grd_k H | replace H := out_step H (by assumption) | (replace H := bind_some H; obtain ⟨_, _, H⟩ := H))); done) | (repeat (first | exact grd_p H | replace H := grd_k H | replace H := out_step H (by assumption)))))
        | ((with_reducible refine CallW.mk ?_); (repeat (first | replace H := grd_k H | replace H := out_step H (by assumption))); replace H := bind_some H; obtain ⟨y, hy, H⟩ := H; first | ((with_reducible have hz : spec_l1In _ _ _ = some y := hy); clear hz; refine Exists.intro _ (Exists.intro _ ⟨spec_l1In.call hy ?_, rfl, rfl, ?_⟩)))
        | ((with_reducible refine fin_mk ?_); (repeat (first | replace H := grd_k H | replace H := out_step H (by assumption))); have H := Option.some.inj H; subst H))
    | constructor
def G15 : Env := G14.add 51 [] spec_l17Wind.S
theorem G15_ok : EnvOk Try.prog G15 := G14_ok.add ent_51 fun ar h r h1 ⟨a0, y, hy, e1, e2, e3, e4⟩ => by
  subst e3 e4; exact (spec_l17Wind.spec a0 y hy).le e1 e2
attribute [local irreducible] spec_l17Wind

noncomputable def spec_l17Way (a0 : Int) : Option (Bool) :=
  ((spec_l1In a0 (0 : Int) (359 : Int)).bind fun y1 => (some y1))
def spec_l17Way.res (_ : Int) (y : Bool) : AV := (.bl y)
def spec_l17Way.out (_ : Int) (_ : Bool) : List (Option LB) := []
def spec_l17Way.S (ar : List AV) (h : List (Option LB)) (r : AV) (h1 : List (Option LB)) : Prop := ∃ a0 y, spec_l17Way a0 = some y ∧ leL ar [(.v (.int .i64 a0))] ∧ leH h [] ∧ r = spec_l17Way.res a0 y ∧ h1 = spec_l17Way.out a0 y
theorem spec_l17Way.call {ar : List AV} {h : List (Option LB)} {a0 : Int} {y : Bool} (H : spec_l17Way a0 = some y) (h0 : leLk ar [(.v (.int .i64 a0))] (leHk h [])) : spec_l17Way.S ar h (spec_l17Way.res a0 y) (spec_l17Way.out a0 y) := ⟨a0, y, H, (args_ok h0).1, (args_ok h0).2, rfl, rfl⟩
set_option maxHeartbeats 100000000 in
set_option maxRecDepth 100000 in
theorem spec_l17Way.spec (a0 : Int) (y : Bool) (H : spec_l17Way a0 = some y) : Spec Try.prog 75 [(.v (.int .i64 a0))] [] (spec_l17Way.res a0 y) (spec_l17Way.out a0 y) := by
  refine spec_intro (G15_ok.at tok []) (ct := []) Try.func75 rfl (by kernel_rfl) (by kernel_rfl) rfl ?_
  repeat' first
    | ((with_reducible refine eqg ?_); exact rfl)
    | ((with_reducible refine KOb.mk ?_); kernel_rfl)
    | ((with_reducible intro h); (repeat (first | replace H := grd_k H | replace H := out_step H (by assumption))); first | replace H := cond_t h H | replace H := cond_f h H | exact absurd h (by decide) | skip)
    | ((with_reducible refine Ob.mk ?_); first | (with_reducible rfl) | (first | ((repeat (first | (with_reducible exact grd_p H) | (replace H := grd_k H) | (replace H := out_step H (by assumption)))); done) | rfl | ((repeat (first | exact grd_p H | replace H := grd_k H | replace H := out_step H (by assumption))); done) | ((repeat (first | exact grd_p H | (have hp := grd_p H; exact hp) | replace H := grd_k H | replace H := out_step H (by assumption) | (replace H := bind_some H; obtain ⟨_, _, H⟩ := H))); done) | (repeat (first | exact grd_p H | replace H := grd_k H | replace H := out_step H (by assumption)))))
    | (with_reducible exact True.intro)
    | ((conv => whnf); first
        | (with_reducible refine And.intro ?_ ?_)
        | (with_reducible exact True.intro)
        | ((with_reducible refine Ob.mk ?_); first | (with_reducible rfl) | (first | ((repeat (first | (with_reducible exact grd_p H) | (replace H := grd_k H) | (replace H := out_step H (by assumption)))); done) | rfl | ((repeat (first | exact grd_p H | replace H := grd_k H | replace H := out_step H (by assumption))); done) | ((repeat (first | exact grd_p H | (have hp := grd_p H; exact hp) | replace H := grd_k H | replace H := out_step H (by assumption) | (replace H := bind_some H; obtain ⟨_, _, H⟩ := H))); done) | (repeat (first | exact grd_p H | replace H := grd_k H | replace H := out_step H (by assumption)))))
        | ((with_reducible refine CallW.mk ?_); (repeat (first | replace H := grd_k H | replace H := out_step H (by assumption))); replace H := bind_some H; obtain ⟨y, hy, H⟩ := H; first | ((with_reducible have hz : spec_l1In _ _ _ = some y := hy); clear hz; refine Exists.intro _ (Exists.intro _ ⟨spec_l1In.call hy ?_, rfl, rfl, ?_⟩)))
        | ((with_reducible refine fin_mk ?_); (repeat (first | replace H := grd_k H | replace H := out_step H (by assumption))); have H := Option.some.inj H; subst H))
    | constructor
def G16 : Env := G15.add 75 [] spec_l17Way.S
theorem G16_ok : EnvOk Try.prog G16 := G15_ok.add ent_75 fun ar h r h1 ⟨a0, y, hy, e1, e2, e3, e4⟩ => by
  subst e3 e4; exact (spec_l17Way.spec a0 y hy).le e1 e2
attribute [local irreducible] spec_l17Way

noncomputable def spec_l17One (a0 : Weather) : Option (Bool) :=
  ((spec_l17Minute a0.1).bind fun y1 => (cond y1 ((spec_l17Wind a0.2.1).bind fun y2 => (cond y2 ((spec_l17Way a0.2.2.1).bind fun y3 => (cond y3 ((spec_l1In a0.2.2.2.1 ((-400) : Int) (500 : Int)).bind fun y4 => (some y4)) ((some false)))) ((some false)))) ((some false))))
def spec_l17One.res (_ : Weather) (y : Bool) : AV := (.bl y)
def spec_l17One.out (_ : Weather) (_ : Bool) : List (Option LB) := []
def spec_l17One.S (ar : List AV) (h : List (Option LB)) (r : AV) (h1 : List (Option LB)) : Prop := ∃ a0 y, spec_l17One a0 = some y ∧ leL ar [(.agg [(.v (.int .i64 a0.1)), (.v (.int .i64 a0.2.1)), (.v (.int .i64 a0.2.2.1)), (.v (.int .i64 a0.2.2.2.1)), (.bl a0.2.2.2.2.1)])] ∧ leH h [] ∧ r = spec_l17One.res a0 y ∧ h1 = spec_l17One.out a0 y
theorem spec_l17One.call {ar : List AV} {h : List (Option LB)} {a0 : Weather} {y : Bool} (H : spec_l17One a0 = some y) (h0 : leLk ar [(.agg [(.v (.int .i64 a0.1)), (.v (.int .i64 a0.2.1)), (.v (.int .i64 a0.2.2.1)), (.v (.int .i64 a0.2.2.2.1)), (.bl a0.2.2.2.2.1)])] (leHk h [])) : spec_l17One.S ar h (spec_l17One.res a0 y) (spec_l17One.out a0 y) := ⟨a0, y, H, (args_ok h0).1, (args_ok h0).2, rfl, rfl⟩
set_option maxHeartbeats 100000000 in
set_option maxRecDepth 100000 in
theorem spec_l17One.spec (a0 : Weather) (y : Bool) (H : spec_l17One a0 = some y) : Spec Try.prog 66 [(.agg [(.v (.int .i64 a0.1)), (.v (.int .i64 a0.2.1)), (.v (.int .i64 a0.2.2.1)), (.v (.int .i64 a0.2.2.2.1)), (.bl a0.2.2.2.2.1)])] [] (spec_l17One.res a0 y) (spec_l17One.out a0 y) := by
  refine spec_intro (G16_ok.at tok []) (ct := []) Try.func66 rfl (by kernel_rfl) (by kernel_rfl) rfl ?_
  repeat' first
    | ((with_reducible refine eqg ?_); exact rfl)
    | ((with_reducible refine KOb.mk ?_); kernel_rfl)
    | ((with_reducible intro h); (repeat (first | replace H := grd_k H | replace H := out_step H (by assumption))); first | replace H := cond_t h H | replace H := cond_f h H | exact absurd h (by decide) | skip)
    | ((with_reducible refine Ob.mk ?_); first | (with_reducible rfl) | (first | ((repeat (first | (with_reducible exact grd_p H) | (replace H := grd_k H) | (replace H := out_step H (by assumption)))); done) | rfl | ((repeat (first | exact grd_p H | replace H := grd_k H | replace H := out_step H (by assumption))); done) | ((repeat (first | exact grd_p H | (have hp := grd_p H; exact hp) | replace H := grd_k H | replace H := out_step H (by assumption) | (replace H := bind_some H; obtain ⟨_, _, H⟩ := H))); done) | (repeat (first | exact grd_p H | replace H := grd_k H | replace H := out_step H (by assumption)))))
    | (with_reducible exact True.intro)
    | ((conv => whnf); first
        | (with_reducible refine And.intro ?_ ?_)
        | (with_reducible exact True.intro)
        | ((with_reducible refine Ob.mk ?_); first | (with_reducible rfl) | (first | ((repeat (first | (with_reducible exact grd_p H) | (replace H := grd_k H) | (replace H := out_step H (by assumption)))); done) | rfl | ((repeat (first | exact grd_p H | replace H := grd_k H | replace H := out_step H (by assumption))); done) | ((repeat (first | exact grd_p H | (have hp := grd_p H; exact hp) | replace H := grd_k H | replace H := out_step H (by assumption) | (replace H := bind_some H; obtain ⟨_, _, H⟩ := H))); done) | (repeat (first | exact grd_p H | replace H := grd_k H | replace H := out_step H (by assumption)))))
        | ((with_reducible refine CallW.mk ?_); (repeat (first | replace H := grd_k H | replace H := out_step H (by assumption))); replace H := bind_some H; obtain ⟨y, hy, H⟩ := H; first | ((with_reducible have hz : spec_l17Minute _ = some y := hy); clear hz; refine Exists.intro _ (Exists.intro _ ⟨spec_l17Minute.call hy ?_, rfl, rfl, ?_⟩)) | ((with_reducible have hz : spec_l17Wind _ = some y := hy); clear hz; refine Exists.intro _ (Exists.intro _ ⟨spec_l17Wind.call hy ?_, rfl, rfl, ?_⟩)) | ((with_reducible have hz : spec_l17Way _ = some y := hy); clear hz; refine Exists.intro _ (Exists.intro _ ⟨spec_l17Way.call hy ?_, rfl, rfl, ?_⟩)) | ((with_reducible have hz : spec_l1In _ _ _ = some y := hy); clear hz; refine Exists.intro _ (Exists.intro _ ⟨spec_l1In.call hy ?_, rfl, rfl, ?_⟩)))
        | ((with_reducible refine fin_mk ?_); (repeat (first | replace H := grd_k H | replace H := out_step H (by assumption))); have H := Option.some.inj H; subst H))
    | constructor
def G17 : Env := G16.add 66 [] spec_l17One.S
theorem G17_ok : EnvOk Try.prog G17 := G16_ok.add ent_66 fun ar h r h1 ⟨a0, y, hy, e1, e2, e3, e4⟩ => by
  subst e3 e4; exact (spec_l17One.spec a0 y hy).le e1 e2
attribute [local irreducible] spec_l17One

noncomputable def spec_l17Good_loop1 (a0 : (List Weather)) (v5 : Int) : Option (Lp (Int) ((Unit) ⊕ (Unit))) :=
  (cond (decide (v5 < (a0.length : Int))) (grd (0 ≤ v5 ∧ v5 < (a0.length : Int)) ((spec_l17One ((a0.getD v5.toNat d_Weather).1, (a0.getD v5.toNat d_Weather).2.1, (a0.getD v5.toNat d_Weather).2.2.1, (a0.getD v5.toNat d_Weather).2.2.2.1, (a0.getD v5.toNat d_Weather).2.2.2.2.1, ())).bind fun y6 => (cond (!y6) ((some (.out (Sum.inl ())))) (cond (decide ((0 : Int) < v5)) (grd (0 ≤ (w64 (v5 - (1 : Int))) ∧ (w64 (v5 - (1 : Int))) < (a0.length : Int)) (grd (0 ≤ v5 ∧ v5 < (a0.length : Int)) (cond (decide (((a0.getD v5.toNat d_Weather).1) ≤ ((a0.getD ((w64 (v5 - (1 : Int))).toNat) d_Weather).1))) ((some (.out (Sum.inl ())))) (some (.go (w64 (v5 + (1 : Int)))))))) (some (.go (w64 (v5 + (1 : Int))))))))) ((some (.out (Sum.inr ())))))
noncomputable def spec_l17Good (a0 : (List Weather)) : Option (Bool) :=
  ((iter (fun s => spec_l17Good_loop1 a0 s) (0 : Int)).bind (Sum.elim (fun _ => (some false)) (fun _ => (some (decide ((a0.length : Int) ≤ (20 : Int)))))))
def spec_l17Good.res (_ : (List Weather)) (y : Bool) : AV := (.bl y)
def spec_l17Good.out (_ : (List Weather)) (_ : Bool) : List (Option LB) := []
def spec_l17Good.S (ar : List AV) (h : List (Option LB)) (r : AV) (h1 : List (Option LB)) : Prop := ∃ a0 y, spec_l17Good a0 = some y ∧ leL ar [(.tree ty_Weather a0)] ∧ leH h [] ∧ r = spec_l17Good.res a0 y ∧ h1 = spec_l17Good.out a0 y
theorem spec_l17Good.call {ar : List AV} {h : List (Option LB)} {a0 : (List Weather)} {y : Bool} (H : spec_l17Good a0 = some y) (h0 : leLk ar [(.tree ty_Weather a0)] (leHk h [])) : spec_l17Good.S ar h (spec_l17Good.res a0 y) (spec_l17Good.out a0 y) := ⟨a0, y, H, (args_ok h0).1, (args_ok h0).2, rfl, rfl⟩
set_option maxHeartbeats 100000000 in
set_option maxRecDepth 100000 in
theorem spec_l17Good.spec (a0 : (List Weather)) (y : Bool) (H : spec_l17Good a0 = some y) : Spec Try.prog 50 [(.tree ty_Weather a0)] [] (spec_l17Good.res a0 y) (spec_l17Good.out a0 y) := by
  refine spec_intro (G17_ok.at tok []) (ct := [(5, some [0, 3, 17, 18, 19, 20, 21, 22, 23, 24, 25, 26, 27, 28, 29, 30, 31, 32, 33])]) Try.func50 rfl (by kernel_rfl) (by kernel_rfl) rfl ?_
  repeat' first
    | ((with_reducible refine eqg ?_); exact rfl)
    | ((with_reducible refine KOb.mk ?_); kernel_rfl)
    | ((with_reducible intro h); (repeat (first | replace H := grd_k H | replace H := out_step H (by assumption))); first | replace H := cond_t h H | replace H := cond_f h H | exact absurd h (by decide) | skip)
    | ((with_reducible refine Ob.mk ?_); first | (with_reducible rfl) | (first | ((repeat (first | (with_reducible exact grd_p H) | (replace H := grd_k H) | (replace H := out_step H (by assumption)))); done) | rfl | ((repeat (first | exact grd_p H | replace H := grd_k H | replace H := out_step H (by assumption))); done) | ((repeat (first | exact grd_p H | (have hp := grd_p H; exact hp) | replace H := grd_k H | replace H := out_step H (by assumption) | (replace H := bind_some H; obtain ⟨_, _, H⟩ := H))); done) | (repeat (first | exact grd_p H | replace H := grd_k H | replace H := out_step H (by assumption)))))
    | (with_reducible exact True.intro)
    | ((conv => whnf); first
        | (with_reducible refine And.intro ?_ ?_)
        | (with_reducible exact True.intro)
        | ((with_reducible refine Ob.mk ?_); first | (with_reducible rfl) | (first | ((repeat (first | (with_reducible exact grd_p H) | (replace H := grd_k H) | (replace H := out_step H (by assumption)))); done) | rfl | ((repeat (first | exact grd_p H | replace H := grd_k H | replace H := out_step H (by assumption))); done) | ((repeat (first | exact grd_p H | (have hp := grd_p H; exact hp) | replace H := grd_k H | replace H := out_step H (by assumption) | (replace H := bind_some H; obtain ⟨_, _, H⟩ := H))); done) | (repeat (first | exact grd_p H | replace H := grd_k H | replace H := out_step H (by assumption)))))
        | ((with_reducible refine CallW.mk ?_); (repeat (first | replace H := grd_k H | replace H := out_step H (by assumption))); replace H := bind_some H; obtain ⟨y, hy, H⟩ := H; first | ((with_reducible have hz : spec_l17One _ = some y := hy); clear hz; refine Exists.intro _ (Exists.intro _ ⟨spec_l17One.call hy ?_, rfl, rfl, ?_⟩)))
        | ((repeat (first | replace H := grd_k H | replace H := out_step H (by assumption))); refine loop_iter (G17_ok.at tok []) (ct := [(5, some [0, 3, 17, 18, 19, 20, 21, 22, 23, 24, 25, 26, 27, 28, 29, 30, 31, 32, 33])]) (F := (fun s1 : Int => ⟨sl [(0, (.tree ty_Weather a0)), (3, (.v (.int .i64 s1)))], []⟩)) (step := (fun s : Int => spec_l17Good_loop1 _ s)) _ H (by kernel_rfl) (sub_auto ?_) ?_; rotate_left; (intro s1 r v hr H); rotate_right)
        | ((repeat (first | replace H := grd_k H | replace H := out_step H (by assumption))); refine again_step H (by assumption) (sub_auto ?_))
        | ((with_reducible refine fin_mk ?_); (repeat (first | replace H := grd_k H | replace H := out_step H (by assumption))); have H := Option.some.inj H; subst H))
    | constructor
def G18 : Env := G17.add 50 [] spec_l17Good.S
theorem G18_ok : EnvOk Try.prog G18 := G17_ok.add ent_50 fun ar h r h1 ⟨a0, y, hy, e1, e2, e3, e4⟩ => by
  subst e3 e4; exact (spec_l17Good.spec a0 y hy).le e1 e2
attribute [local irreducible] spec_l17Good

noncomputable def spec_CalmSpans_loop1 (a0 : (List Weather)) (a1 : Int) (v6 : Bool) (v7 : Int) (v8 : (List (List Int))) : Option (Lp (Bool × Int × (List (List Int))) (((List (List Int))))) :=
  (cond (decide (v7 < (a0.length : Int))) (grd (0 ≤ v7 ∧ v7 < (a0.length : Int)) (cond (!((a0.getD v7.toNat d_Weather).2.2.2.2.1)) (grd (0 ≤ v7 ∧ v7 < (a0.length : Int)) (cond (decide (((a0.getD v7.toNat d_Weather).2.1) ≤ a1)) (cond v6 (grd (0 ≤ (w64 ((v8.length : Int) - (1 : Int))) ∧ (w64 ((v8.length : Int) - (1 : Int))) < (v8.length : Int)) (grd (0 ≤ (0 : Int) ∧ (0 : Int) < ((v8.getD ((w64 ((v8.length : Int) - (1 : Int))).toNat) []).length : Int)) (grd (0 ≤ v7 ∧ v7 < (a0.length : Int)) (grd (0 ≤ (w64 ((v8.length : Int) - (1 : Int))) ∧ (w64 ((v8.length : Int) - (1 : Int))) < (v8.length : Int)) (some (.go ((decide (((a0.getD v7.toNat d_Weather).2.1) ≤ a1)), (w64 (v7 + (1 : Int))), (v8.set ((w64 ((v8.length : Int) - (1 : Int))).toNat) [((v8.getD ((w64 ((v8.length : Int) - (1 : Int))).toNat) []).getD ((0 : Int).toNat) 0), (a0.getD v7.toNat d_Weather).1])))))))) (cond (decide (((a0.getD v7.toNat d_Weather).2.1) ≤ a1)) (grd (0 ≤ v7 ∧ v7 < (a0.length : Int)) (grd (0 ≤ v7 ∧ v7 < (a0.length : Int)) (grd (v8.length + [[(a0.getD v7.toNat d_Weather).1, (a0.getD v7.toNat d_Weather).1]].length ≤ 140737488355328 / 24 ∧ v8.length + [[(a0.getD v7.toNat d_Weather).1, (a0.getD v7.toNat d_Weather).1]].length ≤ 140737488355328) (some (.go ((decide (((a0.getD v7.toNat d_Weather).2.1) ≤ a1)), (w64 (v7 + (1 : Int))), (v8 ++ [[(a0.getD v7.toNat d_Weather).1, (a0.getD v7.toNat d_Weather).1]]))))))) (some (.go ((decide (((a0.getD v7.toNat d_Weather).2.1) ≤ a1)), (w64 (v7 + (1 : Int))), v8))))) (cond (decide (((a0.getD v7.toNat d_Weather).2.1) ≤ a1)) (grd (0 ≤ v7 ∧ v7 < (a0.length : Int)) (grd (0 ≤ v7 ∧ v7 < (a0.length : Int)) (grd (v8.length + [[(a0.getD v7.toNat d_Weather).1, (a0.getD v7.toNat d_Weather).1]].length ≤ 140737488355328 / 24 ∧ v8.length + [[(a0.getD v7.toNat d_Weather).1, (a0.getD v7.toNat d_Weather).1]].length ≤ 140737488355328) (some (.go ((decide (((a0.getD v7.toNat d_Weather).2.1) ≤ a1)), (w64 (v7 + (1 : Int))), (v8 ++ [[(a0.getD v7.toNat d_Weather).1, (a0.getD v7.toNat d_Weather).1]]))))))) (some (.go ((decide (((a0.getD v7.toNat d_Weather).2.1) ≤ a1)), (w64 (v7 + (1 : Int))), v8)))))) (some (.go (false, (w64 (v7 + (1 : Int))), v8))))) ((some (.out v8))))
noncomputable def spec_CalmSpans (a0 : (List Weather)) (a1 : Int) : Option ((List (List Int)) × Bool × (List Weather)) :=
  ((spec_l17Good a0).bind fun y1 => (cond (!y1) ((some (([] : List (List Int)), false, a0))) ((spec_l17Wind a1).bind fun y2 => (cond (!y2) ((some (([] : List (List Int)), false, a0))) ((iter (fun s => spec_CalmSpans_loop1 a0 a1 s.1 s.2.1 s.2.2) (false, (0 : Int), ([] : List (List Int)))).bind (fun r9 => (some (r9, true, a0))))))))
def spec_CalmSpans.res (_ : (List Weather)) (_ : Int) (y : (List (List Int)) × Bool × (List Weather)) : AV := (.tup [(.own 1), (.bl y.2.1)])
def spec_CalmSpans.out (_ : (List Weather)) (_ : Int) (y : (List (List Int)) × Bool × (List Weather)) : List (Option LB) := [some (.arr 48 ty_Weather y.2.2), some (.arr 42 (.sl (.int .i64)) y.1)]
def spec_CalmSpans.S (ar : List AV) (h : List (Option LB)) (r : AV) (h1 : List (Option LB)) : Prop := ∃ a0 a1 y, spec_CalmSpans a0 a1 = some y ∧ leL ar [(.own 0), (.v (.int .i64 a1))] ∧ leH h [some (.arr 48 ty_Weather a0)] ∧ r = spec_CalmSpans.res a0 a1 y ∧ h1 = spec_CalmSpans.out a0 a1 y
theorem spec_CalmSpans.call {ar : List AV} {h : List (Option LB)} {a0 : (List Weather)} {a1 : Int} {y : (List (List Int)) × Bool × (List Weather)} (H : spec_CalmSpans a0 a1 = some y) (h0 : leLk ar [(.own 0), (.v (.int .i64 a1))] (leHk h [some (.arr 48 ty_Weather a0)])) : spec_CalmSpans.S ar h (spec_CalmSpans.res a0 a1 y) (spec_CalmSpans.out a0 a1 y) := ⟨a0, a1, y, H, (args_ok h0).1, (args_ok h0).2, rfl, rfl⟩
set_option maxHeartbeats 100000000 in
set_option maxRecDepth 100000 in
theorem spec_CalmSpans.spec (a0 : (List Weather)) (a1 : Int) (y : (List (List Int)) × Bool × (List Weather)) (H : spec_CalmSpans a0 a1 = some y) : Spec Try.prog 19 [(.own 0), (.v (.int .i64 a1))] [some (.arr 48 ty_Weather a0)] (spec_CalmSpans.res a0 a1 y) (spec_CalmSpans.out a0 a1 y) := by
  refine spec_intro (G18_ok.at tok []) (ct := [(4, some [0, 1, 6, 34, 35, 36, 37, 38, 39, 40, 46]), (9, some [0, 1, 6, 7, 8, 9, 34, 35, 36, 37, 38, 39, 40, 46]), (14, some [0, 1, 6, 8, 9, 34, 35, 36, 37, 38, 39, 40, 46])]) Try.func19 rfl (by kernel_rfl) (by kernel_rfl) rfl ?_
  repeat' first
    | ((with_reducible refine eqg ?_); exact rfl)
    | ((with_reducible refine KOb.mk ?_); kernel_rfl)
    | ((with_reducible intro h); (repeat (first | replace H := grd_k H | replace H := out_step H (by assumption))); first | replace H := cond_t h H | replace H := cond_f h H | exact absurd h (by decide) | skip)
    | ((with_reducible refine Ob.mk ?_); first | (with_reducible rfl) | (first | ((repeat (first | (with_reducible exact grd_p H) | (replace H := grd_k H) | (replace H := out_step H (by assumption)))); done) | rfl | ((repeat (first | exact grd_p H | replace H := grd_k H | replace H := out_step H (by assumption))); done) | ((repeat (first | exact grd_p H | (have hp := grd_p H; exact hp) | replace H := grd_k H | replace H := out_step H (by assumption) | (replace H := bind_some H; obtain ⟨_, _, H⟩ := H))); done) | (repeat (first | exact grd_p H | replace H := grd_k H | replace H := out_step H (by assumption)))))
    | (with_reducible exact True.intro)
    | ((conv => whnf); first
        | (with_reducible refine And.intro ?_ ?_)
        | (with_reducible exact True.intro)
        | ((with_reducible refine Ob.mk ?_); first | (with_reducible rfl) | (first | ((repeat (first | (with_reducible exact grd_p H) | (replace H := grd_k H) | (replace H := out_step H (by assumption)))); done) | rfl | ((repeat (first | exact grd_p H | replace H := grd_k H | replace H := out_step H (by assumption))); done) | ((repeat (first | exact grd_p H | (have hp := grd_p H; exact hp) | replace H := grd_k H | replace H := out_step H (by assumption) | (replace H := bind_some H; obtain ⟨_, _, H⟩ := H))); done) | (repeat (first | exact grd_p H | replace H := grd_k H | replace H := out_step H (by assumption)))))
        | ((with_reducible refine CallW.mk ?_); (repeat (first | replace H := grd_k H | replace H := out_step H (by assumption))); replace H := bind_some H; obtain ⟨y, hy, H⟩ := H; first | ((with_reducible have hz : spec_l17Good _ = some y := hy); clear hz; refine Exists.intro _ (Exists.intro _ ⟨spec_l17Good.call hy ?_, rfl, rfl, ?_⟩)) | ((with_reducible have hz : spec_l17Wind _ = some y := hy); clear hz; refine Exists.intro _ (Exists.intro _ ⟨spec_l17Wind.call hy ?_, rfl, rfl, ?_⟩)))
        | ((repeat (first | replace H := grd_k H | replace H := out_step H (by assumption))); refine loop_iter (G18_ok.at tok []) (ct := [(4, some [0, 1, 6, 34, 35, 36, 37, 38, 39, 40, 46]), (9, some [0, 1, 6, 7, 8, 9, 34, 35, 36, 37, 38, 39, 40, 46]), (14, some [0, 1, 6, 8, 9, 34, 35, 36, 37, 38, 39, 40, 46])]) (F := (fun s1 : Bool × Int × (List (List Int)) => ⟨sl [(0, (.own 0)), (1, (.v (.int .i64 a1))), (6, (.own 1)), (7, (.bl s1.1)), (8, (.v (.int .i64 s1.2.1)))], [some (.arr 48 ty_Weather a0), some (.arr 42 (.sl (.int .i64)) s1.2.2)]⟩)) (step := (fun s : Bool × Int × (List (List Int)) => spec_CalmSpans_loop1 _ _ s.1 s.2.1 s.2.2)) _ H (by kernel_rfl) (sub_auto ?_) ?_; rotate_left; (intro s1 r v hr H); rotate_right)
        | ((repeat (first | replace H := grd_k H | replace H := out_step H (by assumption))); refine again_step H (by assumption) (sub_auto ?_))
        | ((with_reducible refine fin_mk ?_); (repeat (first | replace H := grd_k H | replace H := out_step H (by assumption))); have H := Option.some.inj H; subst H))
    | constructor
def G19 : Env := G18.add 19 [true] spec_CalmSpans.S
theorem G19_ok : EnvOk Try.prog G19 := G18_ok.add ent_19 fun ar h r h1 ⟨a0, a1, y, hy, e1, e2, e3, e4⟩ => by
  subst e3 e4; exact (spec_CalmSpans.spec a0 a1 y hy).le e1 e2
attribute [local irreducible] spec_CalmSpans

noncomputable def laws_rInts_loop1 (a0 : (List Int)) (a1 : (List Int)) (v2 : Int) : Option (Lp (Int) ((Unit) ⊕ (Unit))) :=
  (cond (decide (v2 < (a0.length : Int))) (grd (0 ≤ v2 ∧ v2 < (a0.length : Int)) (grd (0 ≤ v2 ∧ v2 < (a1.length : Int)) (cond (!decide ((a0.getD v2.toNat 0) = (a1.getD v2.toNat 0))) ((some (.out (Sum.inl ())))) (some (.go (w64 (v2 + (1 : Int)))))))) ((some (.out (Sum.inr ())))))
noncomputable def laws_rInts (a0 : (List Int)) (a1 : (List Int)) : Option (Bool) :=
  (cond (!decide ((a0.length : Int) = (a1.length : Int))) ((some false)) ((iter (fun s => laws_rInts_loop1 a0 a1 s) (0 : Int)).bind (Sum.elim (fun _ => (some false)) (fun _ => (some true)))))
def laws_rInts.res (_ : (List Int)) (_ : (List Int)) (y : Bool) : AV := (.bl y)
def laws_rInts.out (_ : (List Int)) (_ : (List Int)) (_ : Bool) : List (Option LB) := []
def laws_rInts.S (ar : List AV) (h : List (Option LB)) (r : AV) (h1 : List (Option LB)) : Prop := ∃ a0 a1 y, laws_rInts a0 a1 = some y ∧ leL ar [(.tree (.int .i64) a0), (.tree (.int .i64) a1)] ∧ leH h [] ∧ r = laws_rInts.res a0 a1 y ∧ h1 = laws_rInts.out a0 a1 y
theorem laws_rInts.call {ar : List AV} {h : List (Option LB)} {a0 : (List Int)} {a1 : (List Int)} {y : Bool} (H : laws_rInts a0 a1 = some y) (h0 : leLk ar [(.tree (.int .i64) a0), (.tree (.int .i64) a1)] (leHk h [])) : laws_rInts.S ar h (laws_rInts.res a0 a1 y) (laws_rInts.out a0 a1 y) := ⟨a0, a1, y, H, (args_ok h0).1, (args_ok h0).2, rfl, rfl⟩
set_option maxHeartbeats 100000000 in
set_option maxRecDepth 100000 in
theorem laws_rInts.spec (a0 : (List Int)) (a1 : (List Int)) (y : Bool) (H : laws_rInts a0 a1 = some y) : Spec Try.prog 30 [(.tree (.int .i64) a0), (.tree (.int .i64) a1)] [] (laws_rInts.res a0 a1 y) (laws_rInts.out a0 a1 y) := by
  refine spec_intro (G19_ok.at tok []) (ct := [(5, some [0, 1, 5])]) Try.func30 rfl (by kernel_rfl) (by kernel_rfl) rfl ?_
  repeat' first
    | ((with_reducible refine eqg ?_); exact rfl)
    | ((with_reducible refine KOb.mk ?_); kernel_rfl)
    | ((with_reducible intro h); (repeat (first | replace H := grd_k H | replace H := out_step H (by assumption))); first | replace H := cond_t h H | replace H := cond_f h H | exact absurd h (by decide) | skip)
    | ((with_reducible refine Ob.mk ?_); first | (with_reducible rfl) | (first | ((repeat (first | (with_reducible exact grd_p H) | (replace H := grd_k H) | (replace H := out_step H (by assumption)))); done) | rfl | ((repeat (first | exact grd_p H | replace H := grd_k H | replace H := out_step H (by assumption))); done) | ((repeat (first | exact grd_p H | (have hp := grd_p H; exact hp) | replace H := grd_k H | replace H := out_step H (by assumption) | (replace H := bind_some H; obtain ⟨_, _, H⟩ := H))); done) | (repeat (first | exact grd_p H | replace H := grd_k H | replace H := out_step H (by assumption)))))
    | (with_reducible exact True.intro)
    | ((conv => whnf); first
        | (with_reducible refine And.intro ?_ ?_)
        | (with_reducible exact True.intro)
        | ((with_reducible refine Ob.mk ?_); first | (with_reducible rfl) | (first | ((repeat (first | (with_reducible exact grd_p H) | (replace H := grd_k H) | (replace H := out_step H (by assumption)))); done) | rfl | ((repeat (first | exact grd_p H | replace H := grd_k H | replace H := out_step H (by assumption))); done) | ((repeat (first | exact grd_p H | (have hp := grd_p H; exact hp) | replace H := grd_k H | replace H := out_step H (by assumption) | (replace H := bind_some H; obtain ⟨_, _, H⟩ := H))); done) | (repeat (first | exact grd_p H | replace H := grd_k H | replace H := out_step H (by assumption)))))
        | ((repeat (first | replace H := grd_k H | replace H := out_step H (by assumption))); refine loop_iter (G19_ok.at tok []) (ct := [(5, some [0, 1, 5])]) (F := (fun s1 : Int => ⟨sl [(0, (.tree (.int .i64) a0)), (1, (.tree (.int .i64) a1)), (5, (.v (.int .i64 s1)))], []⟩)) (step := (fun s : Int => laws_rInts_loop1 _ _ s)) _ H (by kernel_rfl) (sub_auto ?_) ?_; rotate_left; (intro s1 r v hr H); rotate_right)
        | ((repeat (first | replace H := grd_k H | replace H := out_step H (by assumption))); refine again_step H (by assumption) (sub_auto ?_))
        | ((with_reducible refine fin_mk ?_); (repeat (first | replace H := grd_k H | replace H := out_step H (by assumption))); have H := Option.some.inj H; subst H))
    | constructor
def G20 : Env := G19.add 30 [] laws_rInts.S
theorem G20_ok : EnvOk Try.prog G20 := G19_ok.add ent_30 fun ar h r h1 ⟨a0, a1, y, hy, e1, e2, e3, e4⟩ => by
  subst e3 e4; exact (laws_rInts.spec a0 a1 y hy).le e1 e2
attribute [local irreducible] laws_rInts

noncomputable def laws_rTable_loop1 (a0 : (List (List Int))) (a1 : (List (List Int))) (v4 : Int) : Option (Lp (Int) ((Unit) ⊕ (Unit))) :=
  (cond (decide (v4 < (a0.length : Int))) (grd (0 ≤ v4 ∧ v4 < (a0.length : Int)) (grd (0 ≤ v4 ∧ v4 < (a1.length : Int)) ((laws_rInts (a0.getD v4.toNat []) (a1.getD v4.toNat [])).bind fun y5 => (cond (!y5) ((some (.out (Sum.inl ())))) (some (.go (w64 (v4 + (1 : Int))))))))) ((some (.out (Sum.inr ())))))
noncomputable def laws_rTable (a0 : (List (List Int))) (a1 : (List (List Int))) : Option (Bool) :=
  (cond (!decide ((a0.length : Int) = (a1.length : Int))) ((some false)) ((iter (fun s => laws_rTable_loop1 a0 a1 s) (0 : Int)).bind (Sum.elim (fun _ => (some false)) (fun _ => (some true)))))
def laws_rTable.res (_ : (List (List Int))) (_ : (List (List Int))) (y : Bool) : AV := (.bl y)
def laws_rTable.out (_ : (List (List Int))) (_ : (List (List Int))) (_ : Bool) : List (Option LB) := []
def laws_rTable.S (ar : List AV) (h : List (Option LB)) (r : AV) (h1 : List (Option LB)) : Prop := ∃ a0 a1 y, laws_rTable a0 a1 = some y ∧ leL ar [(.tree (.sl (.int .i64)) a0), (.tree (.sl (.int .i64)) a1)] ∧ leH h [] ∧ r = laws_rTable.res a0 a1 y ∧ h1 = laws_rTable.out a0 a1 y
theorem laws_rTable.call {ar : List AV} {h : List (Option LB)} {a0 : (List (List Int))} {a1 : (List (List Int))} {y : Bool} (H : laws_rTable a0 a1 = some y) (h0 : leLk ar [(.tree (.sl (.int .i64)) a0), (.tree (.sl (.int .i64)) a1)] (leHk h [])) : laws_rTable.S ar h (laws_rTable.res a0 a1 y) (laws_rTable.out a0 a1 y) := ⟨a0, a1, y, H, (args_ok h0).1, (args_ok h0).2, rfl, rfl⟩
set_option maxHeartbeats 100000000 in
set_option maxRecDepth 100000 in
theorem laws_rTable.spec (a0 : (List (List Int))) (a1 : (List (List Int))) (y : Bool) (H : laws_rTable a0 a1 = some y) : Spec Try.prog 20 [(.tree (.sl (.int .i64)) a0), (.tree (.sl (.int .i64)) a1)] [] (laws_rTable.res a0 a1 y) (laws_rTable.out a0 a1 y) := by
  refine spec_intro (G20_ok.at tok []) (ct := [(7, some [0, 1, 5, 26])]) Try.func20 rfl (by kernel_rfl) (by kernel_rfl) rfl ?_
  repeat' first
    | ((with_reducible refine eqg ?_); exact rfl)
    | ((with_reducible refine KOb.mk ?_); kernel_rfl)
    | ((with_reducible intro h); (repeat (first | replace H := grd_k H | replace H := out_step H (by assumption))); first | replace H := cond_t h H | replace H := cond_f h H | exact absurd h (by decide) | skip)
    | ((with_reducible refine Ob.mk ?_); first | (with_reducible rfl) | (first | ((repeat (first | (with_reducible exact grd_p H) | (replace H := grd_k H) | (replace H := out_step H (by assumption)))); done) | rfl | ((repeat (first | exact grd_p H | replace H := grd_k H | replace H := out_step H (by assumption))); done) | ((repeat (first | exact grd_p H | (have hp := grd_p H; exact hp) | replace H := grd_k H | replace H := out_step H (by assumption) | (replace H := bind_some H; obtain ⟨_, _, H⟩ := H))); done) | (repeat (first | exact grd_p H | replace H := grd_k H | replace H := out_step H (by assumption)))))
    | (with_reducible exact True.intro)
    | ((conv => whnf); first
        | (with_reducible refine And.intro ?_ ?_)
        | (with_reducible exact True.intro)
        | ((with_reducible refine Ob.mk ?_); first | (with_reducible rfl) | (first | ((repeat (first | (with_reducible exact grd_p H) | (replace H := grd_k H) | (replace H := out_step H (by assumption)))); done) | rfl | ((repeat (first | exact grd_p H | replace H := grd_k H | replace H := out_step H (by assumption))); done) | ((repeat (first | exact grd_p H | (have hp := grd_p H; exact hp) | replace H := grd_k H | replace H := out_step H (by assumption) | (replace H := bind_some H; obtain ⟨_, _, H⟩ := H))); done) | (repeat (first | exact grd_p H | replace H := grd_k H | replace H := out_step H (by assumption)))))
        | ((with_reducible refine CallW.mk ?_); (repeat (first | replace H := grd_k H | replace H := out_step H (by assumption))); replace H := bind_some H; obtain ⟨y, hy, H⟩ := H; first | ((with_reducible have hz : laws_rInts _ _ = some y := hy); clear hz; refine Exists.intro _ (Exists.intro _ ⟨laws_rInts.call hy ?_, rfl, rfl, ?_⟩)))
        | ((repeat (first | replace H := grd_k H | replace H := out_step H (by assumption))); refine loop_iter (G20_ok.at tok []) (ct := [(7, some [0, 1, 5, 26])]) (F := (fun s1 : Int => ⟨sl [(0, (.tree (.sl (.int .i64)) a0)), (1, (.tree (.sl (.int .i64)) a1)), (5, (.v (.int .i64 s1)))], []⟩)) (step := (fun s : Int => laws_rTable_loop1 _ _ s)) _ H (by kernel_rfl) (sub_auto ?_) ?_; rotate_left; (intro s1 r v hr H); rotate_right)
        | ((repeat (first | replace H := grd_k H | replace H := out_step H (by assumption))); refine again_step H (by assumption) (sub_auto ?_))
        | ((with_reducible refine fin_mk ?_); (repeat (first | replace H := grd_k H | replace H := out_step H (by assumption))); have H := Option.some.inj H; subst H))
    | constructor
def G21 : Env := G20.add 20 [] laws_rTable.S
theorem G21_ok : EnvOk Try.prog G21 := G20_ok.add ent_20 fun ar h r h1 ⟨a0, a1, y, hy, e1, e2, e3, e4⟩ => by
  subst e3 e4; exact (laws_rTable.spec a0 a1 y hy).le e1 e2
attribute [local irreducible] laws_rTable

end Go.Proofs.Ytaajchikfgbecaa
