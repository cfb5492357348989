/-
  Contracts, printed by a program.
-/
import Derived.Test.YtpmmaohaahbphaaDoorC862
namespace Go.Proofs.YtpmmaohaahbphaaDoor
open Go.RowKit
attribute [local irreducible] Ob loopwp Sub Spec Fin Again CallW CutC KOb iter joinx outm

attribute [local irreducible] laws_rBig spec_l1Cur_next spec_l1Cur_pick spec_l1Cur_of spec_l1Cur_among spec_l1Cur_condition spec_l1Cur_one spec_l1Cur_conditions spec_l1Cur_day24 spec_DrawInspectionPlan impl_within impl_isWord impl_isDate impl_IsCondition

noncomputable def impl_AreConditions_loop1 (a0 : (List Condition)) (v5 : Int) : Option (Lp (Int) ((Unit) ⊕ (Unit))) :=
  (cond (decide (v5 < (a0.length : Int))) (grd (0 ≤ v5 ∧ v5 < (a0.length : Int)) ((impl_IsCondition ((a0.getD v5.toNat d_Condition).1, (a0.getD v5.toNat d_Condition).2.1, (a0.getD v5.toNat d_Condition).2.2.1, (a0.getD v5.toNat d_Condition).2.2.2.1, (a0.getD v5.toNat d_Condition).2.2.2.2.1, ())).bind fun y6 => (cond (!y6) ((some (.out (Sum.inl ())))) (cond (decide ((0 : Int) < v5)) (grd (0 ≤ (w64 (v5 - (1 : Int))) ∧ (w64 (v5 - (1 : Int))) < (a0.length : Int)) (cond (decide (((a0.getD v5.toNat d_Condition).1) ≤ ((a0.getD ((w64 (v5 - (1 : Int))).toNat) d_Condition).1))) ((some (.out (Sum.inl ())))) (some (.go (w64 (v5 + (1 : Int))))))) (some (.go (w64 (v5 + (1 : Int))))))))) ((some (.out (Sum.inr ())))))
noncomputable def impl_AreConditions (a0 : (List Condition)) : Option (Bool) :=
  ((iter (fun s => impl_AreConditions_loop1 a0 s) (0 : Int)).bind (Sum.elim (fun _ => (some false)) (fun _ => (some (decide ((a0.length : Int) ≤ (12 : Int)))))))
def impl_AreConditions.res (_ : (List Condition)) (y : Bool) : AV := (.bl y)
def impl_AreConditions.out (_ : (List Condition)) (_ : Bool) : List (Option LB) := []
def impl_AreConditions.S (ar : List AV) (h : List (Option LB)) (r : AV) (h1 : List (Option LB)) : Prop := ∃ a0 y, impl_AreConditions a0 = some y ∧ leL ar [(.tree ty_Condition a0)] ∧ leH h [] ∧ r = impl_AreConditions.res a0 y ∧ h1 = impl_AreConditions.out a0 y
theorem impl_AreConditions.call {ar : List AV} {h : List (Option LB)} {a0 : (List Condition)} {y : Bool} (H : impl_AreConditions a0 = some y) (h0 : leLk ar [(.tree ty_Condition a0)] (leHk h [])) : impl_AreConditions.S ar h (impl_AreConditions.res a0 y) (impl_AreConditions.out a0 y) := ⟨a0, y, H, (args_ok h0).1, (args_ok h0).2, rfl, rfl⟩
set_option maxHeartbeats 100000000 in
set_option maxRecDepth 100000 in
theorem impl_AreConditions.spec (a0 : (List Condition)) (y : Bool) (H : impl_AreConditions a0 = some y) : Spec Tryd.prog 23 [(.tree ty_Condition a0)] [] (impl_AreConditions.res a0 y) (impl_AreConditions.out a0 y) := by
  refine spec_intro (G14_ok.at tok []) (ct := [(5, some [0, 5, 6, 7, 16, 17, 18, 19, 20, 21, 22, 23, 24, 25, 26, 27, 28, 29])]) Tryd.func23 rfl (by kernel_rfl) (by kernel_rfl) rfl ?_
  repeat' first
    | ((with_reducible refine eqg ?_); exact rfl)
    | ((with_reducible refine KOb.mk ?_); kernel_rfl)
    | ((with_reducible intro h); (repeat (first | replace H := grd_k H | replace H := out_step H (by assumption))); first | replace H := cond_t h H | replace H := cond_f h H | exact absurd h (by decide) | skip)
    | ((with_reducible refine Ob.mk ?_); first | (with_reducible rfl) | (first | ((repeat (first | (with_reducible exact grd_p H) | (replace H := grd_k H) | (replace H := out_step H (by assumption)))); done) | rfl | ((repeat (first | exact grd_p H | replace H := grd_k H | replace H := out_step H (by assumption))); done) | ((repeat (first | exact grd_p H | (have hp := grd_p H; exact hp) | replace H := grd_k H | replace H := out_step H (by assumption) | (replace H := bind_some H; obtain ⟨_, _, H⟩ := H))); done) | (repeat (first | exact grd_p H | replace H := grd_k H | replace H := out_step H (by assumption)))))
    | (with_reducible exact True.intro)
    | ((conv => whnf); first
        | (with_reducible refine And.intro ?_ ?_)
        | (with_reducible exact True.intro)
        | ((with_reducible refine Ob.mk ?_); first | (with_reducible rfl) | (first | ((repeat (first | (with_reducible exact grd_p H) | (replace H := grd_k H) | (replace H := out_step H (by assumption)))); done) | rfl | ((repeat (first | exact grd_p H | replace H := grd_k H | replace H := out_step H (by assumption))); done) | ((repeat (first | exact grd_p H | (have hp := grd_p H; exact hp) | replace H := grd_k H | replace H := out_step H (by assumption) | (replace H := bind_some H; obtain ⟨_, _, H⟩ := H))); done) | (repeat (first | exact grd_p H | replace H := grd_k H | replace H := out_step H (by assumption)))))
        | ((with_reducible refine CallW.mk ?_); (repeat (first | replace H := grd_k H | replace H := out_step H (by assumption))); replace H := bind_some H; obtain ⟨y, hy, H⟩ := H; first | ((with_reducible have hz : impl_IsCondition _ = some y := hy); clear hz; refine Exists.intro _ (Exists.intro _ ⟨impl_IsCondition.call hy ?_, rfl, rfl, ?_⟩)))
        | ((repeat (first | replace H := grd_k H | replace H := out_step H (by assumption))); refine loop_iter (G14_ok.at tok []) (ct := [(5, some [0, 5, 6, 7, 16, 17, 18, 19, 20, 21, 22, 23, 24, 25, 26, 27, 28, 29])]) (F := (fun s1 : Int => ⟨sl [(0, (.tree ty_Condition a0)), (5, (.tree ty_Condition a0)), (6, (.v (.int .i64 (a0.length : Int)))), (7, (.v (.int .i64 s1)))], []⟩)) (step := (fun s : Int => impl_AreConditions_loop1 _ s)) _ H (by kernel_rfl) (sub_auto ?_) ?_; rotate_left; (intro s1 r v hr H); rotate_right)
        | ((repeat (first | replace H := grd_k H | replace H := out_step H (by assumption))); refine again_step H (by assumption) (sub_auto ?_))
        | ((with_reducible refine fin_mk ?_); (repeat (first | replace H := grd_k H | replace H := out_step H (by assumption))); have H := Option.some.inj H; subst H))
    | constructor
def G15 : Env := G14.add 23 [] impl_AreConditions.S
theorem G15_ok : EnvOk Tryd.prog G15 := G14_ok.add ent_23 fun ar h r h1 ⟨a0, y, hy, e1, e2, e3, e4⟩ => by
  subst e3 e4; exact (impl_AreConditions.spec a0 y hy).le e1 e2
attribute [local irreducible] impl_AreConditions

noncomputable def impl_Condition_lastMet (a0 : Condition) : Option (Int) :=
  (cond (decide (a0.2.2.2.2.1 = (5 : Int))) ((some ((-1) : Int))) (cond (decide (a0.2.2.2.2.1 = (4 : Int))) ((some (w64 (a0.2.2.2.1 + (if true = true then (if a0.2.2.1 < (14 : Int) then a0.2.2.1 else (14 : Int)) else (if a0.2.2.1 > (14 : Int) then a0.2.2.1 else (14 : Int))))))) ((some (w64 (a0.2.2.2.1 + a0.2.2.1))))))
def impl_Condition_lastMet.res (_ : Condition) (y : Int) : AV := (.v (.int .i64 y))
def impl_Condition_lastMet.out (_ : Condition) (_ : Int) : List (Option LB) := []
def impl_Condition_lastMet.S (ar : List AV) (h : List (Option LB)) (r : AV) (h1 : List (Option LB)) : Prop := ∃ a0 y, impl_Condition_lastMet a0 = some y ∧ leL ar [(.agg [(.v (.int .i64 a0.1)), (.v (.string a0.2.1)), (.v (.int .i64 a0.2.2.1)), (.v (.int .i64 a0.2.2.2.1)), (.v (.int .i64 a0.2.2.2.2.1))])] ∧ leH h [] ∧ r = impl_Condition_lastMet.res a0 y ∧ h1 = impl_Condition_lastMet.out a0 y
theorem impl_Condition_lastMet.call {ar : List AV} {h : List (Option LB)} {a0 : Condition} {y : Int} (H : impl_Condition_lastMet a0 = some y) (h0 : leLk ar [(.agg [(.v (.int .i64 a0.1)), (.v (.string a0.2.1)), (.v (.int .i64 a0.2.2.1)), (.v (.int .i64 a0.2.2.2.1)), (.v (.int .i64 a0.2.2.2.2.1))])] (leHk h [])) : impl_Condition_lastMet.S ar h (impl_Condition_lastMet.res a0 y) (impl_Condition_lastMet.out a0 y) := ⟨a0, y, H, (args_ok h0).1, (args_ok h0).2, rfl, rfl⟩
set_option maxHeartbeats 100000000 in
set_option maxRecDepth 100000 in
theorem impl_Condition_lastMet.spec (a0 : Condition) (y : Int) (H : impl_Condition_lastMet a0 = some y) : Spec Tryd.prog 25 [(.agg [(.v (.int .i64 a0.1)), (.v (.string a0.2.1)), (.v (.int .i64 a0.2.2.1)), (.v (.int .i64 a0.2.2.2.1)), (.v (.int .i64 a0.2.2.2.2.1))])] [] (impl_Condition_lastMet.res a0 y) (impl_Condition_lastMet.out a0 y) := by
  refine spec_intro (G15_ok.at tok []) (ct := [(5, some [1])]) Tryd.func25 rfl (by kernel_rfl) (by kernel_rfl) rfl ?_
  repeat' first
    | ((with_reducible refine eqg ?_); exact rfl)
    | ((with_reducible refine KOb.mk ?_); kernel_rfl)
    | ((with_reducible intro h); (repeat (first | replace H := grd_k H | replace H := out_step H (by assumption))); first | replace H := cond_t h H | replace H := cond_f h H | exact absurd h (by decide) | skip)
    | ((with_reducible refine Ob.mk ?_); first | (with_reducible rfl) | (first | ((repeat (first | (with_reducible exact grd_p H) | (replace H := grd_k H) | (replace H := out_step H (by assumption)))); done) | rfl | ((repeat (first | exact grd_p H | replace H := grd_k H | replace H := out_step H (by assumption))); done) | ((repeat (first | exact grd_p H | (have hp := grd_p H; exact hp) | replace H := grd_k H | replace H := out_step H (by assumption) | (replace H := bind_some H; obtain ⟨_, _, H⟩ := H))); done) | (repeat (first | exact grd_p H | replace H := grd_k H | replace H := out_step H (by assumption)))))
    | (with_reducible exact True.intro)
    | ((conv => whnf); first
        | (with_reducible refine And.intro ?_ ?_)
        | (with_reducible exact True.intro)
        | ((with_reducible refine Ob.mk ?_); first | (with_reducible rfl) | (first | ((repeat (first | (with_reducible exact grd_p H) | (replace H := grd_k H) | (replace H := out_step H (by assumption)))); done) | rfl | ((repeat (first | exact grd_p H | replace H := grd_k H | replace H := out_step H (by assumption))); done) | ((repeat (first | exact grd_p H | (have hp := grd_p H; exact hp) | replace H := grd_k H | replace H := out_step H (by assumption) | (replace H := bind_some H; obtain ⟨_, _, H⟩ := H))); done) | (repeat (first | exact grd_p H | replace H := grd_k H | replace H := out_step H (by assumption)))))
        | ((with_reducible refine fin_mk ?_); (repeat (first | replace H := grd_k H | replace H := out_step H (by assumption))); have H := Option.some.inj H; subst H))
    | constructor
def G16 : Env := G15.add 25 [] impl_Condition_lastMet.S
theorem G16_ok : EnvOk Tryd.prog G16 := G15_ok.add ent_25 fun ar h r h1 ⟨a0, y, hy, e1, e2, e3, e4⟩ => by
  subst e3 e4; exact (impl_Condition_lastMet.spec a0 y hy).le e1 e2
attribute [local irreducible] impl_Condition_lastMet

noncomputable def cmp_isNaN_int_ (a0 : Int) : Option (Bool) :=
  (some (!decide (a0 = a0)))
def cmp_isNaN_int_.res (_ : Int) (y : Bool) : AV := (.bl y)
def cmp_isNaN_int_.out (_ : Int) (_ : Bool) : List (Option LB) := []
def cmp_isNaN_int_.S (ar : List AV) (h : List (Option LB)) (r : AV) (h1 : List (Option LB)) : Prop := ∃ a0 y, cmp_isNaN_int_ a0 = some y ∧ leL ar [(.v (.int .i64 a0))] ∧ leH h [] ∧ r = cmp_isNaN_int_.res a0 y ∧ h1 = cmp_isNaN_int_.out a0 y
theorem cmp_isNaN_int_.call {ar : List AV} {h : List (Option LB)} {a0 : Int} {y : Bool} (H : cmp_isNaN_int_ a0 = some y) (h0 : leLk ar [(.v (.int .i64 a0))] (leHk h [])) : cmp_isNaN_int_.S ar h (cmp_isNaN_int_.res a0 y) (cmp_isNaN_int_.out a0 y) := ⟨a0, y, H, (args_ok h0).1, (args_ok h0).2, rfl, rfl⟩
set_option maxHeartbeats 100000000 in
set_option maxRecDepth 100000 in
theorem cmp_isNaN_int_.spec (a0 : Int) (y : Bool) (H : cmp_isNaN_int_ a0 = some y) : Spec Tryd.prog 66 [(.v (.int .i64 a0))] [] (cmp_isNaN_int_.res a0 y) (cmp_isNaN_int_.out a0 y) := by
  refine spec_intro (G16_ok.at tok []) (ct := []) Tryd.func66 rfl (by kernel_rfl) (by kernel_rfl) rfl ?_
  repeat' first
    | ((with_reducible refine eqg ?_); exact rfl)
    | ((with_reducible refine KOb.mk ?_); kernel_rfl)
    | ((with_reducible intro h); (repeat (first | replace H := grd_k H | replace H := out_step H (by assumption))); first | replace H := cond_t h H | replace H := cond_f h H | exact absurd h (by decide) | skip)
    | ((with_reducible refine Ob.mk ?_); first | (with_reducible rfl) | (first | ((repeat (first | (with_reducible exact grd_p H) | (replace H := grd_k H) | (replace H := out_step H (by assumption)))); done) | rfl | ((repeat (first | exact grd_p H | replace H := grd_k H | replace H := out_step H (by assumption))); done) | ((repeat (first | exact grd_p H | (have hp := grd_p H; exact hp) | replace H := grd_k H | replace H := out_step H (by assumption) | (replace H := bind_some H; obtain ⟨_, _, H⟩ := H))); done) | (repeat (first | exact grd_p H | replace H := grd_k H | replace H := out_step H (by assumption)))))
    | (with_reducible exact True.intro)
    | ((conv => whnf); first
        | (with_reducible refine And.intro ?_ ?_)
        | (with_reducible exact True.intro)
        | ((with_reducible refine Ob.mk ?_); first | (with_reducible rfl) | (first | ((repeat (first | (with_reducible exact grd_p H) | (replace H := grd_k H) | (replace H := out_step H (by assumption)))); done) | rfl | ((repeat (first | exact grd_p H | replace H := grd_k H | replace H := out_step H (by assumption))); done) | ((repeat (first | exact grd_p H | (have hp := grd_p H; exact hp) | replace H := grd_k H | replace H := out_step H (by assumption) | (replace H := bind_some H; obtain ⟨_, _, H⟩ := H))); done) | (repeat (first | exact grd_p H | replace H := grd_k H | replace H := out_step H (by assumption)))))
        | ((with_reducible refine fin_mk ?_); (repeat (first | replace H := grd_k H | replace H := out_step H (by assumption))); have H := Option.some.inj H; subst H))
    | constructor
def G17 : Env := G16.add 66 [] cmp_isNaN_int_.S
theorem G17_ok : EnvOk Tryd.prog G17 := G16_ok.add ent_66 fun ar h r h1 ⟨a0, y, hy, e1, e2, e3, e4⟩ => by
  subst e3 e4; exact (cmp_isNaN_int_.spec a0 y hy).le e1 e2
attribute [local irreducible] cmp_isNaN_int_

noncomputable def cmp_Compare_int_ (a0 : Int) (a1 : Int) : Option (Int) :=
  ((cmp_isNaN_int_ a0).bind fun y1 => ((cmp_isNaN_int_ a1).bind fun y2 => (cond y1 (cond y2 ((some (0 : Int))) ((some ((-1) : Int)))) (cond y2 ((some (1 : Int))) (cond (decide (a0 < a1)) ((some ((-1) : Int))) (cond (decide (a1 < a0)) ((some (1 : Int))) ((some (0 : Int)))))))))
def cmp_Compare_int_.res (_ : Int) (_ : Int) (y : Int) : AV := (.v (.int .i64 y))
def cmp_Compare_int_.out (_ : Int) (_ : Int) (_ : Int) : List (Option LB) := []
def cmp_Compare_int_.S (ar : List AV) (h : List (Option LB)) (r : AV) (h1 : List (Option LB)) : Prop := ∃ a0 a1 y, cmp_Compare_int_ a0 a1 = some y ∧ leL ar [(.v (.int .i64 a0)), (.v (.int .i64 a1))] ∧ leH h [] ∧ r = cmp_Compare_int_.res a0 a1 y ∧ h1 = cmp_Compare_int_.out a0 a1 y
theorem cmp_Compare_int_.call {ar : List AV} {h : List (Option LB)} {a0 : Int} {a1 : Int} {y : Int} (H : cmp_Compare_int_ a0 a1 = some y) (h0 : leLk ar [(.v (.int .i64 a0)), (.v (.int .i64 a1))] (leHk h [])) : cmp_Compare_int_.S ar h (cmp_Compare_int_.res a0 a1 y) (cmp_Compare_int_.out a0 a1 y) := ⟨a0, a1, y, H, (args_ok h0).1, (args_ok h0).2, rfl, rfl⟩
set_option maxHeartbeats 100000000 in
set_option maxRecDepth 100000 in
theorem cmp_Compare_int_.spec (a0 : Int) (a1 : Int) (y : Int) (H : cmp_Compare_int_ a0 a1 = some y) : Spec Tryd.prog 49 [(.v (.int .i64 a0)), (.v (.int .i64 a1))] [] (cmp_Compare_int_.res a0 a1 y) (cmp_Compare_int_.out a0 a1 y) := by
  refine spec_intro (G17_ok.at tok []) (ct := [(10, some [0, 1, 16])]) Tryd.func49 rfl (by kernel_rfl) (by kernel_rfl) rfl ?_
  repeat' first
    | ((with_reducible refine eqg ?_); exact rfl)
    | ((with_reducible refine KOb.mk ?_); kernel_rfl)
    | ((with_reducible intro h); (repeat (first | replace H := grd_k H | replace H := out_step H (by assumption))); first | replace H := cond_t h H | replace H := cond_f h H | exact absurd h (by decide) | skip)
    | ((with_reducible refine Ob.mk ?_); first | (with_reducible rfl) | (first | ((repeat (first | (with_reducible exact grd_p H) | (replace H := grd_k H) | (replace H := out_step H (by assumption)))); done) | rfl | ((repeat (first | exact grd_p H | replace H := grd_k H | replace H := out_step H (by assumption))); done) | ((repeat (first | exact grd_p H | (have hp := grd_p H; exact hp) | replace H := grd_k H | replace H := out_step H (by assumption) | (replace H := bind_some H; obtain ⟨_, _, H⟩ := H))); done) | (repeat (first | exact grd_p H | replace H := grd_k H | replace H := out_step H (by assumption)))))
    | (with_reducible exact True.intro)
    | ((conv => whnf); first
        | (with_reducible refine And.intro ?_ ?_)
        | (with_reducible exact True.intro)
        | ((with_reducible refine Ob.mk ?_); first | (with_reducible rfl) | (first | ((repeat (first | (with_reducible exact grd_p H) | (replace H := grd_k H) | (replace H := out_step H (by assumption)))); done) | rfl | ((repeat (first | exact grd_p H | replace H := grd_k H | replace H := out_step H (by assumption))); done) | ((repeat (first | exact grd_p H | (have hp := grd_p H; exact hp) | replace H := grd_k H | replace H := out_step H (by assumption) | (replace H := bind_some H; obtain ⟨_, _, H⟩ := H))); done) | (repeat (first | exact grd_p H | replace H := grd_k H | replace H := out_step H (by assumption)))))
        | ((with_reducible refine CallW.mk ?_); (repeat (first | replace H := grd_k H | replace H := out_step H (by assumption))); replace H := bind_some H; obtain ⟨y, hy, H⟩ := H; first | ((with_reducible have hz : cmp_isNaN_int_ _ = some y := hy); clear hz; refine Exists.intro _ (Exists.intro _ ⟨cmp_isNaN_int_.call hy ?_, rfl, rfl, ?_⟩)))
        | ((with_reducible refine fin_mk ?_); (repeat (first | replace H := grd_k H | replace H := out_step H (by assumption))); have H := Option.some.inj H; subst H))
    | constructor
def G18 : Env := G17.add 49 [] cmp_Compare_int_.S
theorem G18_ok : EnvOk Tryd.prog G18 := G17_ok.add ent_49 fun ar h r h1 ⟨a0, a1, y, hy, e1, e2, e3, e4⟩ => by
  subst e3 e4; exact (cmp_Compare_int_.spec a0 a1 y hy).le e1 e2
attribute [local irreducible] cmp_Compare_int_

noncomputable def slices_Compare___int_int__loop1 (a0 : (List Int)) (a1 : (List Int)) (v4 : Int) : Option (Lp (Int) ((Int) ⊕ (Unit))) :=
  (cond (decide (v4 < (a0.length : Int))) (grd (0 ≤ v4 ∧ v4 < (a0.length : Int)) (cond (decide ((a1.length : Int) ≤ v4)) ((some (.out (Sum.inl (1 : Int))))) (grd (0 ≤ v4 ∧ v4 < (a1.length : Int)) ((cmp_Compare_int_ (a0.getD v4.toNat 0) (a1.getD v4.toNat 0)).bind fun y5 => (cond (!decide (y5 = (0 : Int))) ((some (.out (Sum.inl y5)))) (some (.go (w64 (v4 + (1 : Int)))))))))) ((some (.out (Sum.inr ())))))
noncomputable def slices_Compare___int_int_ (a0 : (List Int)) (a1 : (List Int)) : Option (Int) :=
  ((iter (fun s => slices_Compare___int_int__loop1 a0 a1 s) (0 : Int)).bind (Sum.elim (fun r7 => (some r7)) (fun _ => (cond (decide ((a0.length : Int) < (a1.length : Int))) ((some ((-1) : Int))) ((some (0 : Int)))))))
def slices_Compare___int_int_.res (_ : (List Int)) (_ : (List Int)) (y : Int) : AV := (.v (.int .i64 y))
def slices_Compare___int_int_.out (_ : (List Int)) (_ : (List Int)) (_ : Int) : List (Option LB) := []
def slices_Compare___int_int_.S (ar : List AV) (h : List (Option LB)) (r : AV) (h1 : List (Option LB)) : Prop := ∃ a0 a1 y, slices_Compare___int_int_ a0 a1 = some y ∧ leL ar [(.tree (.int .i64) a0), (.tree (.int .i64) a1)] ∧ leH h [] ∧ r = slices_Compare___int_int_.res a0 a1 y ∧ h1 = slices_Compare___int_int_.out a0 a1 y
theorem slices_Compare___int_int_.call {ar : List AV} {h : List (Option LB)} {a0 : (List Int)} {a1 : (List Int)} {y : Int} (H : slices_Compare___int_int_ a0 a1 = some y) (h0 : leLk ar [(.tree (.int .i64) a0), (.tree (.int .i64) a1)] (leHk h [])) : slices_Compare___int_int_.S ar h (slices_Compare___int_int_.res a0 a1 y) (slices_Compare___int_int_.out a0 a1 y) := ⟨a0, a1, y, H, (args_ok h0).1, (args_ok h0).2, rfl, rfl⟩
set_option maxHeartbeats 100000000 in
set_option maxRecDepth 100000 in
theorem slices_Compare___int_int_.spec (a0 : (List Int)) (a1 : (List Int)) (y : Int) (H : slices_Compare___int_int_ a0 a1 = some y) : Spec Tryd.prog 28 [(.tree (.int .i64) a0), (.tree (.int .i64) a1)] [] (slices_Compare___int_int_.res a0 a1 y) (slices_Compare___int_int_.out a0 a1 y) := by
  refine spec_intro (G18_ok.at tok []) (ct := [(7, some [0, 1, 6, 7, 9, 10, 11])]) Tryd.func28 rfl (by kernel_rfl) (by kernel_rfl) rfl ?_
  repeat' first
    | ((with_reducible refine eqg ?_); exact rfl)
    | ((with_reducible refine KOb.mk ?_); kernel_rfl)
    | ((with_reducible intro h); (repeat (first | replace H := grd_k H | replace H := out_step H (by assumption))); first | replace H := cond_t h H | replace H := cond_f h H | exact absurd h (by decide) | skip)
    | ((with_reducible refine Ob.mk ?_); first | (with_reducible rfl) | (first | ((repeat (first | (with_reducible exact grd_p H) | (replace H := grd_k H) | (replace H := out_step H (by assumption)))); done) | rfl | ((repeat (first | exact grd_p H | replace H := grd_k H | replace H := out_step H (by assumption))); done) | ((repeat (first | exact grd_p H | (have hp := grd_p H; exact hp) | replace H := grd_k H | replace H := out_step H (by assumption) | (replace H := bind_some H; obtain ⟨_, _, H⟩ := H))); done) | (repeat (first | exact grd_p H | replace H := grd_k H | replace H := out_step H (by assumption)))))
    | (with_reducible exact True.intro)
    | ((conv => whnf); first
        | (with_reducible refine And.intro ?_ ?_)
        | (with_reducible exact True.intro)
        | ((with_reducible refine Ob.mk ?_); first | (with_reducible rfl) | (first | ((repeat (first | (with_reducible exact grd_p H) | (replace H := grd_k H) | (replace H := out_step H (by assumption)))); done) | rfl | ((repeat (first | exact grd_p H | replace H := grd_k H | replace H := out_step H (by assumption))); done) | ((repeat (first | exact grd_p H | (have hp := grd_p H; exact hp) | replace H := grd_k H | replace H := out_step H (by assumption) | (replace H := bind_some H; obtain ⟨_, _, H⟩ := H))); done) | (repeat (first | exact grd_p H | replace H := grd_k H | replace H := out_step H (by assumption)))))
        | ((with_reducible refine CallW.mk ?_); (repeat (first | replace H := grd_k H | replace H := out_step H (by assumption))); replace H := bind_some H; obtain ⟨y, hy, H⟩ := H; first | ((with_reducible have hz : cmp_Compare_int_ _ _ = some y := hy); clear hz; refine Exists.intro _ (Exists.intro _ ⟨cmp_Compare_int_.call hy ?_, rfl, rfl, ?_⟩)))
        | ((repeat (first | replace H := grd_k H | replace H := out_step H (by assumption))); refine loop_iter (G18_ok.at tok []) (ct := [(7, some [0, 1, 6, 7, 9, 10, 11])]) (F := (fun s1 : Int => ⟨sl [(0, (.tree (.int .i64) a0)), (1, (.tree (.int .i64) a1)), (9, (.tree (.int .i64) a0)), (10, (.v (.int .i64 (a0.length : Int)))), (11, (.v (.int .i64 s1)))], []⟩)) (step := (fun s : Int => slices_Compare___int_int__loop1 _ _ s)) _ H (by kernel_rfl) (sub_auto ?_) ?_; rotate_left; (intro s1 r v hr H); rotate_right)
        | ((repeat (first | replace H := grd_k H | replace H := out_step H (by assumption))); refine again_step H (by assumption) (sub_auto ?_))
        | ((with_reducible refine fin_mk ?_); (repeat (first | replace H := grd_k H | replace H := out_step H (by assumption))); have H := Option.some.inj H; subst H))
    | constructor
  all_goals exact viewz _ _
def G19 : Env := G18.add 28 [] slices_Compare___int_int_.S
theorem G19_ok : EnvOk Tryd.prog G19 := G18_ok.add ent_28 fun ar h r h1 ⟨a0, a1, y, hy, e1, e2, e3, e4⟩ => by
  subst e3 e4; exact (slices_Compare___int_int_.spec a0 a1 y hy).le e1 e2
attribute [local irreducible] slices_Compare___int_int_

noncomputable def impl_InspectionPlan_1 (a0 : (List Int)) (a1 : (List Int)) : Option (Int × (List Int)) :=
  ((slices_Compare___int_int_ a0 a1).bind fun y1 => (some (y1, a0)))
def impl_InspectionPlan_1.res (_ : (List Int)) (_ : (List Int)) (y : Int × (List Int)) : AV := (.v (.int .i64 y.1))
def impl_InspectionPlan_1.out (_ : (List Int)) (_ : (List Int)) (y : Int × (List Int)) : List (Option LB) := [some (.arr 3 (.int .i64) y.2)]
def impl_InspectionPlan_1.S (ar : List AV) (h : List (Option LB)) (r : AV) (h1 : List (Option LB)) : Prop := ∃ a0 a1 y, impl_InspectionPlan_1 a0 a1 = some y ∧ leL ar [(.own 0), (.tree (.int .i64) a1)] ∧ leH h [some (.arr 3 (.int .i64) a0)] ∧ r = impl_InspectionPlan_1.res a0 a1 y ∧ h1 = impl_InspectionPlan_1.out a0 a1 y
theorem impl_InspectionPlan_1.call {ar : List AV} {h : List (Option LB)} {a0 : (List Int)} {a1 : (List Int)} {y : Int × (List Int)} (H : impl_InspectionPlan_1 a0 a1 = some y) (h0 : leLk ar [(.own 0), (.tree (.int .i64) a1)] (leHk h [some (.arr 3 (.int .i64) a0)])) : impl_InspectionPlan_1.S ar h (impl_InspectionPlan_1.res a0 a1 y) (impl_InspectionPlan_1.out a0 a1 y) := ⟨a0, a1, y, H, (args_ok h0).1, (args_ok h0).2, rfl, rfl⟩
set_option maxHeartbeats 100000000 in
set_option maxRecDepth 100000 in
theorem impl_InspectionPlan_1.spec (a0 : (List Int)) (a1 : (List Int)) (y : Int × (List Int)) (H : impl_InspectionPlan_1 a0 a1 = some y) : Spec Tryd.prog 27 [(.own 0), (.tree (.int .i64) a1)] [some (.arr 3 (.int .i64) a0)] (impl_InspectionPlan_1.res a0 a1 y) (impl_InspectionPlan_1.out a0 a1 y) := by
  refine spec_intro (G19_ok.at tok []) (ct := []) Tryd.func27 rfl (by kernel_rfl) (by kernel_rfl) rfl ?_
  repeat' first
    | ((with_reducible refine eqg ?_); exact rfl)
    | ((with_reducible refine KOb.mk ?_); kernel_rfl)
    | ((with_reducible intro h); (repeat (first | replace H := grd_k H | replace H := out_step H (by assumption))); first | replace H := cond_t h H | replace H := cond_f h H | exact absurd h (by decide) | skip)
    | ((with_reducible refine Ob.mk ?_); first | (with_reducible rfl) | (first | ((repeat (first | (with_reducible exact grd_p H) | (replace H := grd_k H) | (replace H := out_step H (by assumption)))); done) | rfl | ((repeat (first | exact grd_p H | replace H := grd_k H | replace H := out_step H (by assumption))); done) | ((repeat (first | exact grd_p H | (have hp := grd_p H; exact hp) | replace H := grd_k H | replace H := out_step H (by assumption) | (replace H := bind_some H; obtain ⟨_, _, H⟩ := H))); done) | (repeat (first | exact grd_p H | replace H := grd_k H | replace H := out_step H (by assumption)))))
    | (with_reducible exact True.intro)
    | ((conv => whnf); first
        | (with_reducible refine And.intro ?_ ?_)
        | (with_reducible exact True.intro)
        | ((with_reducible refine Ob.mk ?_); first | (with_reducible rfl) | (first | ((repeat (first | (with_reducible exact grd_p H) | (replace H := grd_k H) | (replace H := out_step H (by assumption)))); done) | rfl | ((repeat (first | exact grd_p H | replace H := grd_k H | replace H := out_step H (by assumption))); done) | ((repeat (first | exact grd_p H | (have hp := grd_p H; exact hp) | replace H := grd_k H | replace H := out_step H (by assumption) | (replace H := bind_some H; obtain ⟨_, _, H⟩ := H))); done) | (repeat (first | exact grd_p H | replace H := grd_k H | replace H := out_step H (by assumption)))))
        | ((with_reducible refine CallW.mk ?_); (repeat (first | replace H := grd_k H | replace H := out_step H (by assumption))); replace H := bind_some H; obtain ⟨y, hy, H⟩ := H; first | ((with_reducible have hz : slices_Compare___int_int_ _ _ = some y := hy); clear hz; refine Exists.intro _ (Exists.intro _ ⟨slices_Compare___int_int_.call hy ?_, rfl, rfl, ?_⟩)))
        | ((with_reducible refine fin_mk ?_); (repeat (first | replace H := grd_k H | replace H := out_step H (by assumption))); have H := Option.some.inj H; subst H))
    | constructor
def G20 : Env := G19.add 27 [true] impl_InspectionPlan_1.S
theorem G20_ok : EnvOk Tryd.prog G20 := G19_ok.add ent_27 fun ar h r h1 ⟨a0, a1, y, hy, e1, e2, e3, e4⟩ => by
  subst e3 e4; exact (impl_InspectionPlan_1.spec a0 a1 y hy).le e1 e2
attribute [local irreducible] impl_InspectionPlan_1

noncomputable def slices_SortFunc_____int___int__i1 (a0 : (List (List Int))) : Option ((List (List Int))) :=
  (grd (∀ r ∈ a0, r.length = 2) ((some (sortR a0))))
def slices_SortFunc_____int___int__i1.res (_ : (List (List Int))) (_ : (List (List Int))) : AV := (.tup [])
def slices_SortFunc_____int___int__i1.out (_ : (List (List Int))) (y : (List (List Int))) : List (Option LB) := [some (.arr 31 (.sl (.int .i64)) y)]
def slices_SortFunc_____int___int__i1.S (ar : List AV) (h : List (Option LB)) (r : AV) (h1 : List (Option LB)) : Prop := ∃ a0 y, slices_SortFunc_____int___int__i1 a0 = some y ∧ leL ar [(.own 0), (.fn 27 [])] ∧ leH h [some (.arr 31 (.sl (.int .i64)) a0)] ∧ r = slices_SortFunc_____int___int__i1.res a0 y ∧ h1 = slices_SortFunc_____int___int__i1.out a0 y
theorem slices_SortFunc_____int___int__i1.call {ar : List AV} {h : List (Option LB)} {a0 : (List (List Int))} {y : (List (List Int))} (H : slices_SortFunc_____int___int__i1 a0 = some y) (h0 : leLk ar [(.own 0), (.fn 27 [])] (leHk h [some (.arr 31 (.sl (.int .i64)) a0)])) : slices_SortFunc_____int___int__i1.S ar h (slices_SortFunc_____int___int__i1.res a0 y) (slices_SortFunc_____int___int__i1.out a0 y) := ⟨a0, y, H, (args_ok h0).1, (args_ok h0).2, rfl, rfl⟩
theorem slices_SortFunc_____int___int__i1.spec (a0 : (List (List Int))) (y : (List (List Int))) (H : slices_SortFunc_____int___int__i1 a0 = some y) : Spec Tryd.prog 26 [(.own 0), (.fn 27 [])] [some (.arr 31 (.sl (.int .i64)) a0)] (slices_SortFunc_____int___int__i1.res a0 y) (slices_SortFunc_____int___int__i1.out a0 y) := by
  have hg := grd_p H
  have H := Option.some.inj (grd_k H)
  subst H
  exact ext_slices_SortFunc a0 hg
def G21 : Env := G20.add 26 [true] slices_SortFunc_____int___int__i1.S
theorem G21_ok : EnvOk Tryd.prog G21 := G20_ok.add ent_26 fun ar h r h1 ⟨a0, y, hy, e1, e2, e3, e4⟩ => by
  subst e3 e4; exact (slices_SortFunc_____int___int__i1.spec a0 y hy).le e1 e2
attribute [local irreducible] slices_SortFunc_____int___int__i1

end Go.Proofs.YtpmmaohaahbphaaDoor
