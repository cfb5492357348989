/-
  Contracts, printed by a program.
-/
import Derived.Test.YtaajchikfgbecaaC731
namespace Go.Proofs.Ytaajchikfgbecaa
open Go.RowKit
attribute [local irreducible] Ob loopwp Sub Spec Fin Again CallW CutC KOb iter joinx outm

attribute [local irreducible] laws_szDayRow laws_szDayRowS laws_toDayRow laws_toDayRowS spec_l1In spec_l2Word spec_l26One

noncomputable def spec_l26Good_loop1 (a0 : (List DayRow)) (v5 : Int) : Option (Lp (Int) ((Unit) ⊕ (Unit))) :=
  (cond (decide (v5 < (a0.length : Int))) (grd (0 ≤ v5 ∧ v5 < (a0.length : Int)) ((spec_l26One ((a0.getD v5.toNat d_DayRow).1, (a0.getD v5.toNat d_DayRow).2.1, (a0.getD v5.toNat d_DayRow).2.2.1, (a0.getD v5.toNat d_DayRow).2.2.2.1, (a0.getD v5.toNat d_DayRow).2.2.2.2.1, (a0.getD v5.toNat d_DayRow).2.2.2.2.2.1, ())).bind fun y6 => (cond (!y6) ((some (.out (Sum.inl ())))) (cond (decide ((0 : Int) < v5)) (grd (0 ≤ (w64 (v5 - (1 : Int))) ∧ (w64 (v5 - (1 : Int))) < (a0.length : Int)) (grd (0 ≤ v5 ∧ v5 < (a0.length : Int)) (cond (decide (((a0.getD v5.toNat d_DayRow).1) ≤ ((a0.getD ((w64 (v5 - (1 : Int))).toNat) d_DayRow).1))) ((some (.out (Sum.inl ())))) (some (.go (w64 (v5 + (1 : Int)))))))) (some (.go (w64 (v5 + (1 : Int))))))))) ((some (.out (Sum.inr ())))))
noncomputable def spec_l26Good (a0 : (List DayRow)) : Option (Bool) :=
  ((iter (fun s => spec_l26Good_loop1 a0 s) (0 : Int)).bind (Sum.elim (fun _ => (some false)) (fun _ => (some (decide ((a0.length : Int) ≤ (14 : Int)))))))
def spec_l26Good.res (_ : (List DayRow)) (y : Bool) : AV := (.bl y)
def spec_l26Good.out (_ : (List DayRow)) (_ : Bool) : List (Option LB) := []
def spec_l26Good.S (ar : List AV) (h : List (Option LB)) (r : AV) (h1 : List (Option LB)) : Prop := ∃ a0 y, spec_l26Good a0 = some y ∧ leL ar [(.tree ty_DayRow a0)] ∧ leH h [] ∧ r = spec_l26Good.res a0 y ∧ h1 = spec_l26Good.out a0 y
theorem spec_l26Good.call {ar : List AV} {h : List (Option LB)} {a0 : (List DayRow)} {y : Bool} (H : spec_l26Good a0 = some y) (h0 : leLk ar [(.tree ty_DayRow a0)] (leHk h [])) : spec_l26Good.S ar h (spec_l26Good.res a0 y) (spec_l26Good.out a0 y) := ⟨a0, y, H, (args_ok h0).1, (args_ok h0).2, rfl, rfl⟩
set_option maxHeartbeats 100000000 in
set_option maxRecDepth 100000 in
theorem spec_l26Good.spec (a0 : (List DayRow)) (y : Bool) (H : spec_l26Good a0 = some y) : Spec Try.prog 37 [(.tree ty_DayRow a0)] [] (spec_l26Good.res a0 y) (spec_l26Good.out a0 y) := by
  refine spec_intro (G7_ok.at tok []) (ct := [(5, some [0, 3, 17, 18, 19, 20, 21, 22, 23, 24, 25, 26, 27, 28, 29, 30, 31, 32, 33])]) Try.func37 rfl (by kernel_rfl) (by kernel_rfl) rfl ?_
  repeat' first
    | ((with_reducible refine eqg ?_); exact rfl)
    | ((with_reducible refine KOb.mk ?_); kernel_rfl)
    | ((with_reducible intro h); (repeat (first | replace H := grd_k H | replace H := out_step H (by assumption))); first | replace H := cond_t h H | replace H := cond_f h H | exact absurd h (by decide) | skip)
    | ((with_reducible refine Ob.mk ?_); first | (with_reducible rfl) | (first | ((repeat (first | (with_reducible exact grd_p H) | (replace H := grd_k H) | (replace H := out_step H (by assumption)))); done) | rfl | ((repeat (first | exact grd_p H | replace H := grd_k H | replace H := out_step H (by assumption))); done) | ((repeat (first | exact grd_p H | (have hp := grd_p H; exact hp) | replace H := grd_k H | replace H := out_step H (by assumption) | (replace H := bind_some H; obtain ⟨_, _, H⟩ := H))); done) | (repeat (first | exact grd_p H | replace H := grd_k H | replace H := out_step H (by assumption)))))
    | (with_reducible exact True.intro)
    | ((conv => whnf); first
        | (with_reducible refine And.intro ?_ ?_)
        | (with_reducible exact True.intro)
        | ((with_reducible refine Ob.mk ?_); first | (with_reducible rfl) | (first | ((repeat (first | (with_reducible exact grd_p H) | (replace H := grd_k H) | (replace H := out_step H (by assumption)))); done) | rfl | ((repeat (first | exact grd_p H | replace H := grd_k H | replace H := out_step H (by assumption))); done) | ((repeat (first | exact grd_p H | (have hp := grd_p H; exact hp) | replace H := grd_k H | replace H := out_step H (by assumption) | (replace H := bind_some H; obtain ⟨_, _, H⟩ := H))); done) | (repeat (first | exact grd_p H | replace H := grd_k H | replace H := out_step H (by assumption)))))
        | ((with_reducible refine CallW.mk ?_); (repeat (first | replace H := grd_k H | replace H := out_step H (by assumption))); replace H := bind_some H; obtain ⟨y, hy, H⟩ := H; first | ((with_reducible have hz : spec_l26One _ = some y := hy); clear hz; refine Exists.intro _ (Exists.intro _ ⟨spec_l26One.call hy ?_, rfl, rfl, ?_⟩)))
        | ((repeat (first | replace H := grd_k H | replace H := out_step H (by assumption))); refine loop_iter (G7_ok.at tok []) (ct := [(5, some [0, 3, 17, 18, 19, 20, 21, 22, 23, 24, 25, 26, 27, 28, 29, 30, 31, 32, 33])]) (F := (fun s1 : Int => ⟨sl [(0, (.tree ty_DayRow a0)), (3, (.v (.int .i64 s1)))], []⟩)) (step := (fun s : Int => spec_l26Good_loop1 _ s)) _ H (by kernel_rfl) (sub_auto ?_) ?_; rotate_left; (intro s1 r v hr H); rotate_right)
        | ((repeat (first | replace H := grd_k H | replace H := out_step H (by assumption))); refine again_step H (by assumption) (sub_auto ?_))
        | ((with_reducible refine fin_mk ?_); (repeat (first | replace H := grd_k H | replace H := out_step H (by assumption))); have H := Option.some.inj H; subst H))
    | constructor
def G8 : Env := G7.add 37 [] spec_l26Good.S
theorem G8_ok : EnvOk Try.prog G8 := G7_ok.add ent_37 fun ar h r h1 ⟨a0, y, hy, e1, e2, e3, e4⟩ => by
  subst e3 e4; exact (spec_l26Good.spec a0 y hy).le e1 e2
attribute [local irreducible] spec_l26Good

noncomputable def spec_OpenRuns_loop1 (a0 : (List DayRow)) (v5 : Int) (v6 : (List (List Int))) : Option (Lp (Int × (List (List Int))) (((List (List Int))))) :=
  (cond (decide (v5 < (a0.length : Int))) (grd (0 ≤ v5 ∧ v5 < (a0.length : Int)) (grd (0 ≤ v5 ∧ v5 < (a0.length : Int)) (cond (decide (((a0.getD v5.toNat d_DayRow).2.2.2.1) = (0 : Int))) (some (.go ((w64 (v5 + (1 : Int))), v6))) (cond (decide ((0 : Int) < (v6.length : Int))) (grd (0 ≤ (w64 ((v6.length : Int) - (1 : Int))) ∧ (w64 ((v6.length : Int) - (1 : Int))) < (v6.length : Int)) (grd (0 ≤ (1 : Int) ∧ (1 : Int) < ((v6.getD ((w64 ((v6.length : Int) - (1 : Int))).toNat) []).length : Int)) (cond (decide (((v6.getD ((w64 ((v6.length : Int) - (1 : Int))).toNat) []).getD ((1 : Int).toNat) 0) = (w64 (((a0.getD v5.toNat d_DayRow).1) - (1 : Int))))) (grd (0 ≤ (w64 ((v6.length : Int) - (1 : Int))) ∧ (w64 ((v6.length : Int) - (1 : Int))) < (v6.length : Int)) (grd (0 ≤ (0 : Int) ∧ (0 : Int) < ((v6.getD ((w64 ((v6.length : Int) - (1 : Int))).toNat) []).length : Int)) (grd (0 ≤ (w64 ((v6.length : Int) - (1 : Int))) ∧ (w64 ((v6.length : Int) - (1 : Int))) < (v6.length : Int)) (some (.go ((w64 (v5 + (1 : Int))), (v6.set ((w64 ((v6.length : Int) - (1 : Int))).toNat) [((v6.getD ((w64 ((v6.length : Int) - (1 : Int))).toNat) []).getD ((0 : Int).toNat) 0), (a0.getD v5.toNat d_DayRow).1]))))))) (grd (v6.length + [[(a0.getD v5.toNat d_DayRow).1, (a0.getD v5.toNat d_DayRow).1]].length ≤ 140737488355328 / 24 ∧ v6.length + [[(a0.getD v5.toNat d_DayRow).1, (a0.getD v5.toNat d_DayRow).1]].length ≤ 140737488355328) (some (.go ((w64 (v5 + (1 : Int))), (v6 ++ [[(a0.getD v5.toNat d_DayRow).1, (a0.getD v5.toNat d_DayRow).1]])))))))) (grd (v6.length + [[(a0.getD v5.toNat d_DayRow).1, (a0.getD v5.toNat d_DayRow).1]].length ≤ 140737488355328 / 24 ∧ v6.length + [[(a0.getD v5.toNat d_DayRow).1, (a0.getD v5.toNat d_DayRow).1]].length ≤ 140737488355328) (some (.go ((w64 (v5 + (1 : Int))), (v6 ++ [[(a0.getD v5.toNat d_DayRow).1, (a0.getD v5.toNat d_DayRow).1]]))))))))) ((some (.out v6))))
noncomputable def spec_OpenRuns (a0 : (List DayRow)) : Option ((List (List Int)) × Bool × (List DayRow)) :=
  ((spec_l26Good a0).bind fun y1 => (cond (!y1) ((some (([] : List (List Int)), false, a0))) ((iter (fun s => spec_OpenRuns_loop1 a0 s.1 s.2) ((0 : Int), ([] : List (List Int)))).bind (fun r7 => (some (r7, true, a0))))))
def spec_OpenRuns.res (_ : (List DayRow)) (y : (List (List Int)) × Bool × (List DayRow)) : AV := (.tup [(.own 1), (.bl y.2.1)])
def spec_OpenRuns.out (_ : (List DayRow)) (y : (List (List Int)) × Bool × (List DayRow)) : List (Option LB) := [some (.arr 65 ty_DayRow y.2.2), some (.arr 42 (.sl (.int .i64)) y.1)]
def spec_OpenRuns.S (ar : List AV) (h : List (Option LB)) (r : AV) (h1 : List (Option LB)) : Prop := ∃ a0 y, spec_OpenRuns a0 = some y ∧ leL ar [(.own 0)] ∧ leH h [some (.arr 65 ty_DayRow a0)] ∧ r = spec_OpenRuns.res a0 y ∧ h1 = spec_OpenRuns.out a0 y
theorem spec_OpenRuns.call {ar : List AV} {h : List (Option LB)} {a0 : (List DayRow)} {y : (List (List Int)) × Bool × (List DayRow)} (H : spec_OpenRuns a0 = some y) (h0 : leLk ar [(.own 0)] (leHk h [some (.arr 65 ty_DayRow a0)])) : spec_OpenRuns.S ar h (spec_OpenRuns.res a0 y) (spec_OpenRuns.out a0 y) := ⟨a0, y, H, (args_ok h0).1, (args_ok h0).2, rfl, rfl⟩
set_option maxHeartbeats 100000000 in
set_option maxRecDepth 100000 in
theorem spec_OpenRuns.spec (a0 : (List DayRow)) (y : (List (List Int)) × Bool × (List DayRow)) (H : spec_OpenRuns a0 = some y) : Spec Try.prog 8 [(.own 0)] [some (.arr 65 ty_DayRow a0)] (spec_OpenRuns.res a0 y) (spec_OpenRuns.out a0 y) := by
  refine spec_intro (G8_ok.at tok []) (ct := [(9, some [0, 4, 5, 6, 35, 36, 37, 38, 39, 40, 41, 42, 43, 44]), (11, some [0, 4, 5, 6, 7, 35, 36, 37, 38, 39, 40, 41, 42, 43, 44, 45])]) Try.func8 rfl (by kernel_rfl) (by kernel_rfl) rfl ?_
  repeat' first
    | ((with_reducible refine eqg ?_); exact rfl)
    | ((with_reducible refine KOb.mk ?_); kernel_rfl)
    | ((with_reducible intro h); (repeat (first | replace H := grd_k H | replace H := out_step H (by assumption))); first | replace H := cond_t h H | replace H := cond_f h H | exact absurd h (by decide) | skip)
    | ((with_reducible refine Ob.mk ?_); first | (with_reducible rfl) | (first | ((repeat (first | (with_reducible exact grd_p H) | (replace H := grd_k H) | (replace H := out_step H (by assumption)))); done) | rfl | ((repeat (first | exact grd_p H | replace H := grd_k H | replace H := out_step H (by assumption))); done) | ((repeat (first | exact grd_p H | (have hp := grd_p H; exact hp) | replace H := grd_k H | replace H := out_step H (by assumption) | (replace H := bind_some H; obtain ⟨_, _, H⟩ := H))); done) | (repeat (first | exact grd_p H | replace H := grd_k H | replace H := out_step H (by assumption)))))
    | (with_reducible exact True.intro)
    | ((conv => whnf); first
        | (with_reducible refine And.intro ?_ ?_)
        | (with_reducible exact True.intro)
        | ((with_reducible refine Ob.mk ?_); first | (with_reducible rfl) | (first | ((repeat (first | (with_reducible exact grd_p H) | (replace H := grd_k H) | (replace H := out_step H (by assumption)))); done) | rfl | ((repeat (first | exact grd_p H | replace H := grd_k H | replace H := out_step H (by assumption))); done) | ((repeat (first | exact grd_p H | (have hp := grd_p H; exact hp) | replace H := grd_k H | replace H := out_step H (by assumption) | (replace H := bind_some H; obtain ⟨_, _, H⟩ := H))); done) | (repeat (first | exact grd_p H | replace H := grd_k H | replace H := out_step H (by assumption)))))
        | ((with_reducible refine CallW.mk ?_); (repeat (first | replace H := grd_k H | replace H := out_step H (by assumption))); replace H := bind_some H; obtain ⟨y, hy, H⟩ := H; first | ((with_reducible have hz : spec_l26Good _ = some y := hy); clear hz; refine Exists.intro _ (Exists.intro _ ⟨spec_l26Good.call hy ?_, rfl, rfl, ?_⟩)))
        | ((repeat (first | replace H := grd_k H | replace H := out_step H (by assumption))); refine loop_iter (G8_ok.at tok []) (ct := [(9, some [0, 4, 5, 6, 35, 36, 37, 38, 39, 40, 41, 42, 43, 44]), (11, some [0, 4, 5, 6, 7, 35, 36, 37, 38, 39, 40, 41, 42, 43, 44, 45])]) (F := (fun s1 : Int × (List (List Int)) => ⟨sl [(0, (.own 0)), (4, (.own 1)), (5, (.v (.int .i64 s1.1)))], [some (.arr 65 ty_DayRow a0), some (.arr 42 (.sl (.int .i64)) s1.2)]⟩)) (step := (fun s : Int × (List (List Int)) => spec_OpenRuns_loop1 _ s.1 s.2)) _ H (by kernel_rfl) (sub_auto ?_) ?_; rotate_left; (intro s1 r v hr H); rotate_right)
        | ((repeat (first | replace H := grd_k H | replace H := out_step H (by assumption))); refine again_step H (by assumption) (sub_auto ?_))
        | ((with_reducible refine fin_mk ?_); (repeat (first | replace H := grd_k H | replace H := out_step H (by assumption))); have H := Option.some.inj H; subst H))
    | constructor
def G9 : Env := G8.add 8 [true] spec_OpenRuns.S
theorem G9_ok : EnvOk Try.prog G9 := G8_ok.add ent_8 fun ar h r h1 ⟨a0, y, hy, e1, e2, e3, e4⟩ => by
  subst e3 e4; exact (spec_OpenRuns.spec a0 y hy).le e1 e2
attribute [local irreducible] spec_OpenRuns

noncomputable def impl_within (a0 : Int) (a1 : Int) (a2 : Int) : Option (Bool) :=
  (cond (decide (a1 ≤ a0)) ((some (decide (a0 ≤ a2)))) ((some false)))
def impl_within.res (_ : Int) (_ : Int) (_ : Int) (y : Bool) : AV := (.bl y)
def impl_within.out (_ : Int) (_ : Int) (_ : Int) (_ : Bool) : List (Option LB) := []
def impl_within.S (ar : List AV) (h : List (Option LB)) (r : AV) (h1 : List (Option LB)) : Prop := ∃ a0 a1 a2 y, impl_within a0 a1 a2 = some y ∧ leL ar [(.v (.int .i64 a0)), (.v (.int .i64 a1)), (.v (.int .i64 a2))] ∧ leH h [] ∧ r = impl_within.res a0 a1 a2 y ∧ h1 = impl_within.out a0 a1 a2 y
theorem impl_within.call {ar : List AV} {h : List (Option LB)} {a0 : Int} {a1 : Int} {a2 : Int} {y : Bool} (H : impl_within a0 a1 a2 = some y) (h0 : leLk ar [(.v (.int .i64 a0)), (.v (.int .i64 a1)), (.v (.int .i64 a2))] (leHk h [])) : impl_within.S ar h (impl_within.res a0 a1 a2 y) (impl_within.out a0 a1 a2 y) := ⟨a0, a1, a2, y, H, (args_ok h0).1, (args_ok h0).2, rfl, rfl⟩
set_option maxHeartbeats 100000000 in
set_option maxRecDepth 100000 in
theorem impl_within.spec (a0 : Int) (a1 : Int) (a2 : Int) (y : Bool) (H : impl_within a0 a1 a2 = some y) : Spec Try.prog 49 [(.v (.int .i64 a0)), (.v (.int .i64 a1)), (.v (.int .i64 a2))] [] (impl_within.res a0 a1 a2 y) (impl_within.out a0 a1 a2 y) := by
  refine spec_intro (G9_ok.at tok []) (ct := []) Try.func49 rfl (by kernel_rfl) (by kernel_rfl) rfl ?_
  repeat' first
    | ((with_reducible refine eqg ?_); exact rfl)
    | ((with_reducible refine KOb.mk ?_); kernel_rfl)
    | ((with_reducible intro h); (repeat (first | replace H := grd_k H | replace H := out_step H (by assumption))); first | replace H := cond_t h H | replace H := cond_f h H | exact absurd h (by decide) | skip)
    | ((with_reducible refine Ob.mk ?_); first | (with_reducible rfl) | (first | ((repeat (first | (with_reducible exact grd_p H) | (replace H := grd_k H) | (replace H := out_step H (by assumption)))); done) | rfl | ((repeat (first | exact grd_p H | replace H := grd_k H | replace H := out_step H (by assumption))); done) | ((repeat (first | exact grd_p H | (have hp := grd_p H; exact hp) | replace H := grd_k H | replace H := out_step H (by assumption) | (replace H := bind_some H; obtain ⟨_, _, H⟩ := H))); done) | (repeat (first | exact grd_p H | replace H := grd_k H | replace H := out_step H (by assumption)))))
    | (with_reducible exact True.intro)
    | ((conv => whnf); first
        | (with_reducible refine And.intro ?_ ?_)
        | (with_reducible exact True.intro)
        | ((with_reducible refine Ob.mk ?_); first | (with_reducible rfl) | (first | ((repeat (first | (with_reducible exact grd_p H) | (replace H := grd_k H) | (replace H := out_step H (by assumption)))); done) | rfl | ((repeat (first | exact grd_p H | replace H := grd_k H | replace H := out_step H (by assumption))); done) | ((repeat (first | exact grd_p H | (have hp := grd_p H; exact hp) | replace H := grd_k H | replace H := out_step H (by assumption) | (replace H := bind_some H; obtain ⟨_, _, H⟩ := H))); done) | (repeat (first | exact grd_p H | replace H := grd_k H | replace H := out_step H (by assumption)))))
        | ((with_reducible refine fin_mk ?_); (repeat (first | replace H := grd_k H | replace H := out_step H (by assumption))); have H := Option.some.inj H; subst H))
    | constructor
def G10 : Env := G9.add 49 [] impl_within.S
theorem G10_ok : EnvOk Try.prog G10 := G9_ok.add ent_49 fun ar h r h1 ⟨a0, a1, a2, y, hy, e1, e2, e3, e4⟩ => by
  subst e3 e4; exact (impl_within.spec a0 a1 a2 y hy).le e1 e2
attribute [local irreducible] impl_within

noncomputable def impl_isDay (a0 : Int) : Option (Bool) :=
  ((impl_within a0 (0 : Int) (999 : Int)).bind fun y1 => (some y1))
def impl_isDay.res (_ : Int) (y : Bool) : AV := (.bl y)
def impl_isDay.out (_ : Int) (_ : Bool) : List (Option LB) := []
def impl_isDay.S (ar : List AV) (h : List (Option LB)) (r : AV) (h1 : List (Option LB)) : Prop := ∃ a0 y, impl_isDay a0 = some y ∧ leL ar [(.v (.int .i64 a0))] ∧ leH h [] ∧ r = impl_isDay.res a0 y ∧ h1 = impl_isDay.out a0 y
theorem impl_isDay.call {ar : List AV} {h : List (Option LB)} {a0 : Int} {y : Bool} (H : impl_isDay a0 = some y) (h0 : leLk ar [(.v (.int .i64 a0))] (leHk h [])) : impl_isDay.S ar h (impl_isDay.res a0 y) (impl_isDay.out a0 y) := ⟨a0, y, H, (args_ok h0).1, (args_ok h0).2, rfl, rfl⟩
set_option maxHeartbeats 100000000 in
set_option maxRecDepth 100000 in
theorem impl_isDay.spec (a0 : Int) (y : Bool) (H : impl_isDay a0 = some y) : Spec Try.prog 73 [(.v (.int .i64 a0))] [] (impl_isDay.res a0 y) (impl_isDay.out a0 y) := by
  refine spec_intro (G10_ok.at tok []) (ct := []) Try.func73 rfl (by kernel_rfl) (by kernel_rfl) rfl ?_
  repeat' first
    | ((with_reducible refine eqg ?_); exact rfl)
    | ((with_reducible refine KOb.mk ?_); kernel_rfl)
    | ((with_reducible intro h); (repeat (first | replace H := grd_k H | replace H := out_step H (by assumption))); first | replace H := cond_t h H | replace H := cond_f h H | exact absurd h (by decide) | skip)
    | ((with_reducible refine Ob.mk ?_); first | (with_reducible rfl) | (first | ((repeat (first | (with_reducible exact grd_p H) | (replace H := grd_k H) | (replace H := out_step H (by assumption)))); done) | rfl | ((repeat (first | exact grd_p H | replace H := grd_k H | replace H := out_step H (by assumption))); done) | ((repeat (first | exact grd_p H | (have hp := grd_p H; exact hp) | replace H := grd_k H | replace H := out_step H (by assumption) | (replace H := bind_some H; obtain ⟨_, _, H⟩ := H))); done) | (repeat (first | exact grd_p H | replace H := grd_k H | replace H := out_step H (by assumption)))))
    | (with_reducible exact True.intro)
    | ((conv => whnf); first
        | (with_reducible refine And.intro ?_ ?_)
        | (with_reducible exact True.intro)
        | ((with_reducible refine Ob.mk ?_); first | (with_reducible rfl) | (first | ((repeat (first | (with_reducible exact grd_p H) | (replace H := grd_k H) | (replace H := out_step H (by assumption)))); done) | rfl | ((repeat (first | exact grd_p H | replace H := grd_k H | replace H := out_step H (by assumption))); done) | ((repeat (first | exact grd_p H | (have hp := grd_p H; exact hp) | replace H := grd_k H | replace H := out_step H (by assumption) | (replace H := bind_some H; obtain ⟨_, _, H⟩ := H))); done) | (repeat (first | exact grd_p H | replace H := grd_k H | replace H := out_step H (by assumption)))))
        | ((with_reducible refine CallW.mk ?_); (repeat (first | replace H := grd_k H | replace H := out_step H (by assumption))); replace H := bind_some H; obtain ⟨y, hy, H⟩ := H; first | ((with_reducible have hz : impl_within _ _ _ = some y := hy); clear hz; refine Exists.intro _ (Exists.intro _ ⟨impl_within.call hy ?_, rfl, rfl, ?_⟩)))
        | ((with_reducible refine fin_mk ?_); (repeat (first | replace H := grd_k H | replace H := out_step H (by assumption))); have H := Option.some.inj H; subst H))
    | constructor
def G11 : Env := G10.add 73 [] impl_isDay.S
theorem G11_ok : EnvOk Try.prog G11 := G10_ok.add ent_73 fun ar h r h1 ⟨a0, y, hy, e1, e2, e3, e4⟩ => by
  subst e3 e4; exact (impl_isDay.spec a0 y hy).le e1 e2
attribute [local irreducible] impl_isDay

noncomputable def impl_isWord_loop1 (a0 : ByteArray) (v2 : Int) : Option (Lp (Int) ((Unit) ⊕ (Unit))) :=
  (cond (decide (v2 < (a0.size : Int))) (grd (0 ≤ v2 ∧ v2 < (a0.size : Int)) (cond (decide ((bAt a0 v2) < (97 : Int))) ((some (.out (Sum.inl ())))) (grd (0 ≤ v2 ∧ v2 < (a0.size : Int)) (cond (decide ((122 : Int) < (bAt a0 v2))) ((some (.out (Sum.inl ())))) (some (.go (w64 (v2 + (1 : Int))))))))) ((some (.out (Sum.inr ())))))
noncomputable def impl_isWord (a0 : ByteArray) : Option (Bool) :=
  ((iter (fun s => impl_isWord_loop1 a0 s) (0 : Int)).bind (Sum.elim (fun _ => (some false)) (fun _ => (cond (decide ((1 : Int) ≤ (a0.size : Int))) ((some (decide ((a0.size : Int) ≤ (10 : Int))))) ((some false))))))
def impl_isWord.res (_ : ByteArray) (y : Bool) : AV := (.bl y)
def impl_isWord.out (_ : ByteArray) (_ : Bool) : List (Option LB) := []
def impl_isWord.S (ar : List AV) (h : List (Option LB)) (r : AV) (h1 : List (Option LB)) : Prop := ∃ a0 y, impl_isWord a0 = some y ∧ leL ar [(.v (.string a0))] ∧ leH h [] ∧ r = impl_isWord.res a0 y ∧ h1 = impl_isWord.out a0 y
theorem impl_isWord.call {ar : List AV} {h : List (Option LB)} {a0 : ByteArray} {y : Bool} (H : impl_isWord a0 = some y) (h0 : leLk ar [(.v (.string a0))] (leHk h [])) : impl_isWord.S ar h (impl_isWord.res a0 y) (impl_isWord.out a0 y) := ⟨a0, y, H, (args_ok h0).1, (args_ok h0).2, rfl, rfl⟩
set_option maxHeartbeats 100000000 in
set_option maxRecDepth 100000 in
theorem impl_isWord.spec (a0 : ByteArray) (y : Bool) (H : impl_isWord a0 = some y) : Spec Try.prog 74 [(.v (.string a0))] [] (impl_isWord.res a0 y) (impl_isWord.out a0 y) := by
  refine spec_intro (G11_ok.at tok []) (ct := [(6, some [0, 5, 6, 14, 15, 16, 17, 24, 25, 26])]) Try.func74 rfl (by kernel_rfl) (by kernel_rfl) rfl ?_
  repeat' first
    | ((with_reducible refine eqg ?_); exact rfl)
    | ((with_reducible refine KOb.mk ?_); kernel_rfl)
    | ((with_reducible intro h); (repeat (first | replace H := grd_k H | replace H := out_step H (by assumption))); first | replace H := cond_t h H | replace H := cond_f h H | exact absurd h (by decide) | skip)
    | ((with_reducible refine Ob.mk ?_); first | (with_reducible rfl) | (first | ((repeat (first | (with_reducible exact grd_p H) | (replace H := grd_k H) | (replace H := out_step H (by assumption)))); done) | rfl | ((repeat (first | exact grd_p H | replace H := grd_k H | replace H := out_step H (by assumption))); done) | ((repeat (first | exact grd_p H | (have hp := grd_p H; exact hp) | replace H := grd_k H | replace H := out_step H (by assumption) | (replace H := bind_some H; obtain ⟨_, _, H⟩ := H))); done) | (repeat (first | exact grd_p H | replace H := grd_k H | replace H := out_step H (by assumption)))))
    | (with_reducible exact True.intro)
    | ((conv => whnf); first
        | (with_reducible refine And.intro ?_ ?_)
        | (with_reducible exact True.intro)
        | ((with_reducible refine Ob.mk ?_); first | (with_reducible rfl) | (first | ((repeat (first | (with_reducible exact grd_p H) | (replace H := grd_k H) | (replace H := out_step H (by assumption)))); done) | rfl | ((repeat (first | exact grd_p H | replace H := grd_k H | replace H := out_step H (by assumption))); done) | ((repeat (first | exact grd_p H | (have hp := grd_p H; exact hp) | replace H := grd_k H | replace H := out_step H (by assumption) | (replace H := bind_some H; obtain ⟨_, _, H⟩ := H))); done) | (repeat (first | exact grd_p H | replace H := grd_k H | replace H := out_step H (by assumption)))))
        | ((repeat (first | replace H := grd_k H | replace H := out_step H (by assumption))); refine loop_iter (G11_ok.at tok []) (ct := [(6, some [0, 5, 6, 14, 15, 16, 17, 24, 25, 26])]) (F := (fun s1 : Int => ⟨sl [(0, (.v (.string a0))), (5, (.v (.int .i64 (a0.size : Int)))), (6, (.v (.int .i64 s1)))], []⟩)) (step := (fun s : Int => impl_isWord_loop1 _ s)) _ H (by kernel_rfl) (sub_auto ?_) ?_; rotate_left; (intro s1 r v hr H); rotate_right)
        | ((repeat (first | replace H := grd_k H | replace H := out_step H (by assumption))); refine again_step H (by assumption) (sub_auto ?_))
        | ((with_reducible refine fin_mk ?_); (repeat (first | replace H := grd_k H | replace H := out_step H (by assumption))); have H := Option.some.inj H; subst H))
    | constructor
def G12 : Env := G11.add 74 [] impl_isWord.S
theorem G12_ok : EnvOk Try.prog G12 := G11_ok.add ent_74 fun ar h r h1 ⟨a0, y, hy, e1, e2, e3, e4⟩ => by
  subst e3 e4; exact (impl_isWord.spec a0 y hy).le e1 e2
attribute [local irreducible] impl_isWord

noncomputable def impl_IsDayRow (a0 : DayRow) : Option (Bool) :=
  ((impl_isDay a0.1).bind fun y1 => (cond (!y1) ((some false)) ((impl_within a0.2.1 (0 : Int) (99999 : Int)).bind fun y2 => (cond (!y2) ((some false)) ((impl_within a0.2.2.1 (0 : Int) (99999 : Int)).bind fun y3 => (cond (!y3) ((some false)) ((impl_within a0.2.2.2.1 (0 : Int) (24 : Int)).bind fun y4 => (cond (!y4) ((some false)) ((impl_within a0.2.2.2.2.1 (0 : Int) (99 : Int)).bind fun y5 => (cond (!y5) ((some false)) (joinx (cond (decide (a0.2.2.2.1 = (0 : Int))) (cond (decide ((0 : Int) < (w64 ((w64 (a0.2.1 + a0.2.2.1)) + a0.2.2.2.2.1)))) (outm ((some false))) ((some (.go ())))) ((some (.go ())))) (fun (_ : Unit) => (cond (decide (a0.2.2.2.2.1 = (0 : Int))) (cond (decide (a0.2.2.2.2.2.1 = (ByteArray.mk #[]))) ((some true)) (cond (decide ((0 : Int) < a0.2.2.2.2.1)) ((impl_isWord a0.2.2.2.2.2.1).bind fun y7 => (some y7)) ((some false)))) (cond (decide ((0 : Int) < a0.2.2.2.2.1)) ((impl_isWord a0.2.2.2.2.2.1).bind fun y8 => (some y8)) ((some false))))))))))))))))
def impl_IsDayRow.res (_ : DayRow) (y : Bool) : AV := (.bl y)
def impl_IsDayRow.out (_ : DayRow) (_ : Bool) : List (Option LB) := []
def impl_IsDayRow.S (ar : List AV) (h : List (Option LB)) (r : AV) (h1 : List (Option LB)) : Prop := ∃ a0 y, impl_IsDayRow a0 = some y ∧ leL ar [(.agg [(.v (.int .i64 a0.1)), (.v (.int .i64 a0.2.1)), (.v (.int .i64 a0.2.2.1)), (.v (.int .i64 a0.2.2.2.1)), (.v (.int .i64 a0.2.2.2.2.1)), (.v (.string a0.2.2.2.2.2.1))])] ∧ leH h [] ∧ r = impl_IsDayRow.res a0 y ∧ h1 = impl_IsDayRow.out a0 y
theorem impl_IsDayRow.call {ar : List AV} {h : List (Option LB)} {a0 : DayRow} {y : Bool} (H : impl_IsDayRow a0 = some y) (h0 : leLk ar [(.agg [(.v (.int .i64 a0.1)), (.v (.int .i64 a0.2.1)), (.v (.int .i64 a0.2.2.1)), (.v (.int .i64 a0.2.2.2.1)), (.v (.int .i64 a0.2.2.2.2.1)), (.v (.string a0.2.2.2.2.2.1))])] (leHk h [])) : impl_IsDayRow.S ar h (impl_IsDayRow.res a0 y) (impl_IsDayRow.out a0 y) := ⟨a0, y, H, (args_ok h0).1, (args_ok h0).2, rfl, rfl⟩
set_option maxHeartbeats 100000000 in
set_option maxRecDepth 100000 in
theorem impl_IsDayRow.spec (a0 : DayRow) (y : Bool) (H : impl_IsDayRow a0 = some y) : Spec Try.prog 61 [(.agg [(.v (.int .i64 a0.1)), (.v (.int .i64 a0.2.1)), (.v (.int .i64 a0.2.2.1)), (.v (.int .i64 a0.2.2.2.1)), (.v (.int .i64 a0.2.2.2.2.1)), (.v (.string a0.2.2.2.2.2.1))])] [] (impl_IsDayRow.res a0 y) (impl_IsDayRow.out a0 y) := by
  refine spec_intro (G12_ok.at tok []) (ct := [(5, none), (2, some [1, 30, 35, 36, 37, 38, 39, 40, 41, 42, 43, 49, 50, 51, 54, 55, 56, 57, 58, 59, 60, 61]), (4, some [1, 44, 49, 50, 51, 54, 55, 56, 57, 58, 59, 60, 61])]) Try.func61 rfl (by kernel_rfl) (by kernel_rfl) rfl ?_
  repeat' first
    | (with_reducible exact (outm_no H).elim)
    | ((replace H := out_step H (by assumption)); exact (outm_no H).elim)
    | ((with_reducible refine eqg ?_); exact rfl)
    | ((with_reducible refine KOb.mk ?_); kernel_rfl)
    | ((with_reducible intro h); (repeat (first | replace H := grd_k H | replace H := out_step H (by assumption) | replace H := outm_out H)); first | replace H := cond_t h H | replace H := cond_f h H | exact absurd h (by decide) | skip)
    | ((with_reducible refine Ob.mk ?_); first | (with_reducible rfl) | (first | ((repeat (first | (with_reducible exact grd_p H) | (replace H := grd_k H) | (replace H := out_step H (by assumption)) | replace H := outm_out H)); done) | rfl | ((repeat (first | exact grd_p H | replace H := grd_k H | replace H := out_step H (by assumption) | replace H := outm_out H)); done) | ((repeat (first | exact grd_p H | (have hp := grd_p H; exact hp) | replace H := grd_k H | replace H := out_step H (by assumption) | replace H := outm_out H | (replace H := bind_some H; obtain ⟨_, _, H⟩ := H))); done) | (repeat (first | exact grd_p H | replace H := grd_k H | replace H := out_step H (by assumption) | replace H := outm_out H))))
    | (with_reducible exact True.intro)
    | ((conv => whnf); first
        | (with_reducible refine And.intro ?_ ?_)
        | (with_reducible exact True.intro)
        | ((with_reducible refine Ob.mk ?_); first | (with_reducible rfl) | (first | ((repeat (first | (with_reducible exact grd_p H) | (replace H := grd_k H) | (replace H := out_step H (by assumption)) | replace H := outm_out H)); done) | rfl | ((repeat (first | exact grd_p H | replace H := grd_k H | replace H := out_step H (by assumption) | replace H := outm_out H)); done) | ((repeat (first | exact grd_p H | (have hp := grd_p H; exact hp) | replace H := grd_k H | replace H := out_step H (by assumption) | replace H := outm_out H | (replace H := bind_some H; obtain ⟨_, _, H⟩ := H))); done) | (repeat (first | exact grd_p H | replace H := grd_k H | replace H := out_step H (by assumption) | replace H := outm_out H))))
        | ((with_reducible refine CallW.mk ?_); (repeat (first | replace H := grd_k H | replace H := out_step H (by assumption) | replace H := outm_out H)); replace H := bind_some H; obtain ⟨y, hy, H⟩ := H; first | ((with_reducible have hz : impl_isDay _ = some y := hy); clear hz; refine Exists.intro _ (Exists.intro _ ⟨impl_isDay.call hy ?_, rfl, rfl, ?_⟩)) | ((with_reducible have hz : impl_within _ _ _ = some y := hy); clear hz; refine Exists.intro _ (Exists.intro _ ⟨impl_within.call hy ?_, rfl, rfl, ?_⟩)) | ((with_reducible have hz : impl_isWord _ = some y := hy); clear hz; refine Exists.intro _ (Exists.intro _ ⟨impl_isWord.call hy ?_, rfl, rfl, ?_⟩)))
        | ((with_reducible refine cutAt (id := 5) ?_); (repeat (first | replace H := grd_k H | replace H := out_step H (by assumption) | replace H := outm_out H)); first | (replace H := joinx_some H; rcases H with ⟨z, hz, H⟩ | H; rotate_left; (with_reducible refine CutC.no ?_); rotate_right; (refine CutC.mk (id := 5) ⟨sl [(1, (.loc 0 0 0))], [some (.box 65 [(.v (.int .i64 a0.1)), (.v (.int .i64 a0.2.1)), (.v (.int .i64 a0.2.2.1)), (.v (.int .i64 a0.2.2.2.1)), (.v (.int .i64 a0.2.2.2.2.1)), (.v (.string a0.2.2.2.2.2.1))])]⟩ ?_ ?_; (replace H := hz))))
        | ((repeat (first | replace H := grd_k H | replace H := out_step H (by assumption) | replace H := outm_out H)); have H := Option.some.inj H; subst H; with_reducible refine sub_auto ?_)
        | ((repeat (first | replace H := grd_k H | replace H := out_step H (by assumption) | replace H := outm_out H)); have H := go_inj H; subst H; with_reducible refine sub_auto ?_)
        | ((repeat (first | replace H := grd_k H | replace H := out_step H (by assumption) | replace H := outm_out H)); exact (go_out H).elim)
        | ((with_reducible refine fin_mk ?_); (repeat (first | replace H := grd_k H | replace H := out_step H (by assumption) | replace H := outm_out H)); have H := Option.some.inj H; subst H))
    | constructor
def G13 : Env := G12.add 61 [] impl_IsDayRow.S
theorem G13_ok : EnvOk Try.prog G13 := G12_ok.add ent_61 fun ar h r h1 ⟨a0, y, hy, e1, e2, e3, e4⟩ => by
  subst e3 e4; exact (impl_IsDayRow.spec a0 y hy).le e1 e2
attribute [local irreducible] impl_IsDayRow

noncomputable def impl_AreDayRows_loop1 (a0 : (List DayRow)) (v5 : Int) : Option (Lp (Int) ((Unit) ⊕ (Unit))) :=
  (cond (decide (v5 < (a0.length : Int))) (grd (0 ≤ v5 ∧ v5 < (a0.length : Int)) ((impl_IsDayRow ((a0.getD v5.toNat d_DayRow).1, (a0.getD v5.toNat d_DayRow).2.1, (a0.getD v5.toNat d_DayRow).2.2.1, (a0.getD v5.toNat d_DayRow).2.2.2.1, (a0.getD v5.toNat d_DayRow).2.2.2.2.1, (a0.getD v5.toNat d_DayRow).2.2.2.2.2.1, ())).bind fun y6 => (cond (!y6) ((some (.out (Sum.inl ())))) (cond (decide ((0 : Int) < v5)) (grd (0 ≤ (w64 (v5 - (1 : Int))) ∧ (w64 (v5 - (1 : Int))) < (a0.length : Int)) (cond (decide (((a0.getD v5.toNat d_DayRow).1) ≤ ((a0.getD ((w64 (v5 - (1 : Int))).toNat) d_DayRow).1))) ((some (.out (Sum.inl ())))) (some (.go (w64 (v5 + (1 : Int))))))) (some (.go (w64 (v5 + (1 : Int))))))))) ((some (.out (Sum.inr ())))))
noncomputable def impl_AreDayRows (a0 : (List DayRow)) : Option (Bool) :=
  ((iter (fun s => impl_AreDayRows_loop1 a0 s) (0 : Int)).bind (Sum.elim (fun _ => (some false)) (fun _ => (some (decide ((a0.length : Int) ≤ (14 : Int)))))))
def impl_AreDayRows.res (_ : (List DayRow)) (y : Bool) : AV := (.bl y)
def impl_AreDayRows.out (_ : (List DayRow)) (_ : Bool) : List (Option LB) := []
def impl_AreDayRows.S (ar : List AV) (h : List (Option LB)) (r : AV) (h1 : List (Option LB)) : Prop := ∃ a0 y, impl_AreDayRows a0 = some y ∧ leL ar [(.tree ty_DayRow a0)] ∧ leH h [] ∧ r = impl_AreDayRows.res a0 y ∧ h1 = impl_AreDayRows.out a0 y
theorem impl_AreDayRows.call {ar : List AV} {h : List (Option LB)} {a0 : (List DayRow)} {y : Bool} (H : impl_AreDayRows a0 = some y) (h0 : leLk ar [(.tree ty_DayRow a0)] (leHk h [])) : impl_AreDayRows.S ar h (impl_AreDayRows.res a0 y) (impl_AreDayRows.out a0 y) := ⟨a0, y, H, (args_ok h0).1, (args_ok h0).2, rfl, rfl⟩
set_option maxHeartbeats 100000000 in
set_option maxRecDepth 100000 in
theorem impl_AreDayRows.spec (a0 : (List DayRow)) (y : Bool) (H : impl_AreDayRows a0 = some y) : Spec Try.prog 39 [(.tree ty_DayRow a0)] [] (impl_AreDayRows.res a0 y) (impl_AreDayRows.out a0 y) := by
  refine spec_intro (G13_ok.at tok []) (ct := [(5, some [0, 5, 6, 7, 16, 17, 18, 19, 20, 21, 22, 23, 24, 25, 26, 27, 28, 29])]) Try.func39 rfl (by kernel_rfl) (by kernel_rfl) rfl ?_
  repeat' first
    | ((with_reducible refine eqg ?_); exact rfl)
    | ((with_reducible refine KOb.mk ?_); kernel_rfl)
    | ((with_reducible intro h); (repeat (first | replace H := grd_k H | replace H := out_step H (by assumption))); first | replace H := cond_t h H | replace H := cond_f h H | exact absurd h (by decide) | skip)
    | ((with_reducible refine Ob.mk ?_); first | (with_reducible rfl) | (first | ((repeat (first | (with_reducible exact grd_p H) | (replace H := grd_k H) | (replace H := out_step H (by assumption)))); done) | rfl | ((repeat (first | exact grd_p H | replace H := grd_k H | replace H := out_step H (by assumption))); done) | ((repeat (first | exact grd_p H | (have hp := grd_p H; exact hp) | replace H := grd_k H | replace H := out_step H (by assumption) | (replace H := bind_some H; obtain ⟨_, _, H⟩ := H))); done) | (repeat (first | exact grd_p H | replace H := grd_k H | replace H := out_step H (by assumption)))))
    | (with_reducible exact True.intro)
    | ((conv => whnf); first
        | (with_reducible refine And.intro ?_ ?_)
        | (with_reducible exact True.intro)
        | ((with_reducible refine Ob.mk ?_); first | (with_reducible rfl) | (first | ((repeat (first | (with_reducible exact grd_p H) | (replace H := grd_k H) | (replace H := out_step H (by assumption)))); done) | rfl | ((repeat (first | exact grd_p H | replace H := grd_k H | replace H := out_step H (by assumption))); done) | ((repeat (first | exact grd_p H | (have hp := grd_p H; exact hp) | replace H := grd_k H | replace H := out_step H (by assumption) | (replace H := bind_some H; obtain ⟨_, _, H⟩ := H))); done) | (repeat (first | exact grd_p H | replace H := grd_k H | replace H := out_step H (by assumption)))))
        | ((with_reducible refine CallW.mk ?_); (repeat (first | replace H := grd_k H | replace H := out_step H (by assumption))); replace H := bind_some H; obtain ⟨y, hy, H⟩ := H; first | ((with_reducible have hz : impl_IsDayRow _ = some y := hy); clear hz; refine Exists.intro _ (Exists.intro _ ⟨impl_IsDayRow.call hy ?_, rfl, rfl, ?_⟩)))
        | ((repeat (first | replace H := grd_k H | replace H := out_step H (by assumption))); refine loop_iter (G13_ok.at tok []) (ct := [(5, some [0, 5, 6, 7, 16, 17, 18, 19, 20, 21, 22, 23, 24, 25, 26, 27, 28, 29])]) (F := (fun s1 : Int => ⟨sl [(0, (.tree ty_DayRow a0)), (5, (.tree ty_DayRow a0)), (6, (.v (.int .i64 (a0.length : Int)))), (7, (.v (.int .i64 s1)))], []⟩)) (step := (fun s : Int => impl_AreDayRows_loop1 _ s)) _ H (by kernel_rfl) (sub_auto ?_) ?_; rotate_left; (intro s1 r v hr H); rotate_right)
        | ((repeat (first | replace H := grd_k H | replace H := out_step H (by assumption))); refine again_step H (by assumption) (sub_auto ?_))
        | ((with_reducible refine fin_mk ?_); (repeat (first | replace H := grd_k H | replace H := out_step H (by assumption))); have H := Option.some.inj H; subst H))
    | constructor
def G14 : Env := G13.add 39 [] impl_AreDayRows.S
theorem G14_ok : EnvOk Try.prog G14 := G13_ok.add ent_39 fun ar h r h1 ⟨a0, y, hy, e1, e2, e3, e4⟩ => by
  subst e3 e4; exact (impl_AreDayRows.spec a0 y hy).le e1 e2
attribute [local irreducible] impl_AreDayRows

end Go.Proofs.Ytaajchikfgbecaa
