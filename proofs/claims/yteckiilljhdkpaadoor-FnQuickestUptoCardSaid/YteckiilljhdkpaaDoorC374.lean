/-
  Contracts, printed by a program.
-/
import Derived.Test.YteckiilljhdkpaaDoorC373
namespace Go.Proofs.YteckiilljhdkpaaDoor
open Go.RowKit
attribute [local irreducible] Ob loopwp Sub Spec Fin Again CallW CutC KOb iter joinx outm

attribute [local irreducible] laws_rBig spec_l1Cur_next spec_l1Cur_pick spec_l1Cur_among spec_l1Cur_one spec_l1Cur_platform spec_DrawIsPlatform spec_DrawQuickestGo impl_within impl_IsPlatform impl_boardCounts slices_Index___string_string_ slices_Contains___string_string_ impl_IsBoardEvent impl_Platform_step impl_Platform_mostEntering impl_QuickestGo_1_i1 impl_QuickestGo spec_l1In spec_l14Good spec_l1Least

noncomputable def spec_l14Entering (a0 : Platform) : Option (Int) :=
  (cond (!decide (a0.1 = (1 : Int))) ((some (0 : Int))) ((spec_l1Least a0.2.2.2.1 (w64 (a0.2.1 - a0.2.2.1))).bind fun y1 => (cond a0.2.2.2.2.1 ((spec_l1Least (1 : Int) y1).bind fun y2 => (some y2)) ((some y1)))))
def spec_l14Entering.res (_ : Platform) (y : Int) : AV := (.v (.int .i64 y))
def spec_l14Entering.out (_ : Platform) (_ : Int) : List (Option LB) := []
def spec_l14Entering.S (ar : List AV) (h : List (Option LB)) (r : AV) (h1 : List (Option LB)) : Prop := ∃ a0 y, spec_l14Entering a0 = some y ∧ leL ar [(.agg [(.v (.int .i64 a0.1)), (.v (.int .i64 a0.2.1)), (.v (.int .i64 a0.2.2.1)), (.v (.int .i64 a0.2.2.2.1)), (.bl a0.2.2.2.2.1), (.v (.int .i64 a0.2.2.2.2.2.1))])] ∧ leH h [] ∧ r = spec_l14Entering.res a0 y ∧ h1 = spec_l14Entering.out a0 y
theorem spec_l14Entering.call {ar : List AV} {h : List (Option LB)} {a0 : Platform} {y : Int} (H : spec_l14Entering a0 = some y) (h0 : leLk ar [(.agg [(.v (.int .i64 a0.1)), (.v (.int .i64 a0.2.1)), (.v (.int .i64 a0.2.2.1)), (.v (.int .i64 a0.2.2.2.1)), (.bl a0.2.2.2.2.1), (.v (.int .i64 a0.2.2.2.2.2.1))])] (leHk h [])) : spec_l14Entering.S ar h (spec_l14Entering.res a0 y) (spec_l14Entering.out a0 y) := ⟨a0, y, H, (args_ok h0).1, (args_ok h0).2, rfl, rfl⟩
set_option maxHeartbeats 100000000 in
set_option maxRecDepth 100000 in
theorem spec_l14Entering.spec (a0 : Platform) (y : Int) (H : spec_l14Entering a0 = some y) : Spec Tryd.prog 88 [(.agg [(.v (.int .i64 a0.1)), (.v (.int .i64 a0.2.1)), (.v (.int .i64 a0.2.2.1)), (.v (.int .i64 a0.2.2.2.1)), (.bl a0.2.2.2.2.1), (.v (.int .i64 a0.2.2.2.2.2.1))])] [] (spec_l14Entering.res a0 y) (spec_l14Entering.out a0 y) := by
  refine spec_intro (G21_ok.at tok []) (ct := [(4, some [1, 3])]) Tryd.func88 rfl (by kernel_rfl) (by kernel_rfl) rfl ?_
  repeat' first
    | ((with_reducible refine eqg ?_); exact rfl)
    | ((with_reducible refine KOb.mk ?_); kernel_rfl)
    | ((with_reducible intro h); (repeat (first | replace H := grd_k H | replace H := out_step H (by assumption))); first | replace H := cond_t h H | replace H := cond_f h H | exact absurd h (by decide) | skip)
    | ((with_reducible refine Ob.mk ?_); first | (with_reducible rfl) | (first | ((repeat (first | (with_reducible exact grd_p H) | (replace H := grd_k H) | (replace H := out_step H (by assumption)))); done) | rfl | ((repeat (first | exact grd_p H | replace H := grd_k H | replace H := out_step H (by assumption))); done) | ((repeat (first | exact grd_p H | (have hp := grd_p H; exact hp) | replace H := grd_k H | replace H := out_step H (by assumption) | (replace H := bind_some H; obtain ⟨_, _, H⟩ := H))); done) | (repeat (first | exact grd_p H | replace H := grd_k H | replace H := out_step H (by assumption)))))
    | (with_reducible exact True.intro)
    | constructor
    | ((conv => whnf); first
        | ((with_reducible refine Ob.mk ?_); first | (with_reducible rfl) | (first | ((repeat (first | (with_reducible exact grd_p H) | (replace H := grd_k H) | (replace H := out_step H (by assumption)))); done) | rfl | ((repeat (first | exact grd_p H | replace H := grd_k H | replace H := out_step H (by assumption))); done) | ((repeat (first | exact grd_p H | (have hp := grd_p H; exact hp) | replace H := grd_k H | replace H := out_step H (by assumption) | (replace H := bind_some H; obtain ⟨_, _, H⟩ := H))); done) | (repeat (first | exact grd_p H | replace H := grd_k H | replace H := out_step H (by assumption)))))
        | ((with_reducible refine CallW.mk ?_); (repeat (first | replace H := grd_k H | replace H := out_step H (by assumption))); replace H := bind_some H; obtain ⟨y, hy, H⟩ := H; first | ((with_reducible have hz : spec_l1Least _ _ = some y := hy); clear hz; refine Exists.intro _ (Exists.intro _ ⟨spec_l1Least.call hy ?_, rfl, rfl, ?_⟩)))
        | ((with_reducible refine fin_mk ?_); (repeat (first | replace H := grd_k H | replace H := out_step H (by assumption))); have H := Option.some.inj H; subst H))
def G22 : Env := G21.add 88 [] spec_l14Entering.S
theorem G22_ok : EnvOk Tryd.prog G22 := G21_ok.add ent_88 fun ar h r h1 ⟨a0, y, hy, e1, e2, e3, e4⟩ => by
  subst e3 e4; exact (spec_l14Entering.spec a0 y hy).le e1 e2
attribute [local irreducible] spec_l14Entering

noncomputable def spec_l14Most (a0 : ByteArray) : Option (Int) :=
  (cond (decide (a0 = (ByteArray.mk #[99, 111, 109, 101]))) ((some (16 : Int))) (cond (decide (a0 = (ByteArray.mk #[101, 110, 116, 101, 114]))) ((some (16 : Int))) (cond (decide (a0 = (ByteArray.mk #[108, 101, 97, 118, 101]))) ((some (16 : Int))) (cond (decide (a0 = (ByteArray.mk #[97, 114, 114, 105, 118, 101]))) ((some (100 : Int))) (cond (decide (a0 = (ByteArray.mk #[111, 112, 101, 110]))) ((some (0 : Int))) (cond (decide (a0 = (ByteArray.mk #[115, 104, 117, 116]))) ((some (0 : Int))) (cond (decide (a0 = (ByteArray.mk #[108, 101, 118, 101, 108]))) ((some (0 : Int))) (cond (decide (a0 = (ByteArray.mk #[103, 111]))) ((some (0 : Int))) ((some ((-1) : Int)))))))))))
def spec_l14Most.res (_ : ByteArray) (y : Int) : AV := (.v (.int .i64 y))
def spec_l14Most.out (_ : ByteArray) (_ : Int) : List (Option LB) := []
def spec_l14Most.S (ar : List AV) (h : List (Option LB)) (r : AV) (h1 : List (Option LB)) : Prop := ∃ a0 y, spec_l14Most a0 = some y ∧ leL ar [(.v (.string a0))] ∧ leH h [] ∧ r = spec_l14Most.res a0 y ∧ h1 = spec_l14Most.out a0 y
theorem spec_l14Most.call {ar : List AV} {h : List (Option LB)} {a0 : ByteArray} {y : Int} (H : spec_l14Most a0 = some y) (h0 : leLk ar [(.v (.string a0))] (leHk h [])) : spec_l14Most.S ar h (spec_l14Most.res a0 y) (spec_l14Most.out a0 y) := ⟨a0, y, H, (args_ok h0).1, (args_ok h0).2, rfl, rfl⟩
set_option maxHeartbeats 100000000 in
set_option maxRecDepth 100000 in
theorem spec_l14Most.spec (a0 : ByteArray) (y : Int) (H : spec_l14Most a0 = some y) : Spec Tryd.prog 72 [(.v (.string a0))] [] (spec_l14Most.res a0 y) (spec_l14Most.out a0 y) := by
  refine spec_intro (G22_ok.at tok []) (ct := [(10, some [3, 10])]) Tryd.func72 rfl (by kernel_rfl) (by kernel_rfl) rfl ?_
  repeat' first
    | ((with_reducible refine eqg ?_); exact rfl)
    | ((with_reducible refine KOb.mk ?_); kernel_rfl)
    | ((with_reducible intro h); (repeat (first | replace H := grd_k H | replace H := out_step H (by assumption))); first | replace H := cond_t h H | replace H := cond_f h H | exact absurd h (by decide) | skip)
    | ((with_reducible refine Ob.mk ?_); first | (with_reducible rfl) | (first | ((repeat (first | (with_reducible exact grd_p H) | (replace H := grd_k H) | (replace H := out_step H (by assumption)))); done) | rfl | ((repeat (first | exact grd_p H | replace H := grd_k H | replace H := out_step H (by assumption))); done) | ((repeat (first | exact grd_p H | (have hp := grd_p H; exact hp) | replace H := grd_k H | replace H := out_step H (by assumption) | (replace H := bind_some H; obtain ⟨_, _, H⟩ := H))); done) | (repeat (first | exact grd_p H | replace H := grd_k H | replace H := out_step H (by assumption)))))
    | (with_reducible exact True.intro)
    | constructor
    | ((conv => whnf); first
        | ((with_reducible refine Ob.mk ?_); first | (with_reducible rfl) | (first | ((repeat (first | (with_reducible exact grd_p H) | (replace H := grd_k H) | (replace H := out_step H (by assumption)))); done) | rfl | ((repeat (first | exact grd_p H | replace H := grd_k H | replace H := out_step H (by assumption))); done) | ((repeat (first | exact grd_p H | (have hp := grd_p H; exact hp) | replace H := grd_k H | replace H := out_step H (by assumption) | (replace H := bind_some H; obtain ⟨_, _, H⟩ := H))); done) | (repeat (first | exact grd_p H | replace H := grd_k H | replace H := out_step H (by assumption)))))
        | ((with_reducible refine fin_mk ?_); (repeat (first | replace H := grd_k H | replace H := out_step H (by assumption))); have H := Option.some.inj H; subst H))
def G23 : Env := G22.add 72 [] spec_l14Most.S
theorem G23_ok : EnvOk Tryd.prog G23 := G22_ok.add ent_72 fun ar h r h1 ⟨a0, y, hy, e1, e2, e3, e4⟩ => by
  subst e3 e4; exact (spec_l14Most.spec a0 y hy).le e1 e2
attribute [local irreducible] spec_l14Most

noncomputable def spec_l14Event (a0 : BoardEvent) : Option (Bool) :=
  ((spec_l14Most a0.1).bind fun y1 => (cond (decide (y1 = (0 : Int))) (cond (decide (a0.2.1 = (0 : Int))) ((some true)) (cond (decide ((0 : Int) < y1)) ((spec_l1In a0.2.1 (1 : Int) y1).bind fun y2 => (some y2)) ((some false)))) (cond (decide ((0 : Int) < y1)) ((spec_l1In a0.2.1 (1 : Int) y1).bind fun y3 => (some y3)) ((some false)))))
def spec_l14Event.res (_ : BoardEvent) (y : Bool) : AV := (.bl y)
def spec_l14Event.out (_ : BoardEvent) (_ : Bool) : List (Option LB) := []
def spec_l14Event.S (ar : List AV) (h : List (Option LB)) (r : AV) (h1 : List (Option LB)) : Prop := ∃ a0 y, spec_l14Event a0 = some y ∧ leL ar [(.agg [(.v (.string a0.1)), (.v (.int .i64 a0.2.1))])] ∧ leH h [] ∧ r = spec_l14Event.res a0 y ∧ h1 = spec_l14Event.out a0 y
theorem spec_l14Event.call {ar : List AV} {h : List (Option LB)} {a0 : BoardEvent} {y : Bool} (H : spec_l14Event a0 = some y) (h0 : leLk ar [(.agg [(.v (.string a0.1)), (.v (.int .i64 a0.2.1))])] (leHk h [])) : spec_l14Event.S ar h (spec_l14Event.res a0 y) (spec_l14Event.out a0 y) := ⟨a0, y, H, (args_ok h0).1, (args_ok h0).2, rfl, rfl⟩
set_option maxHeartbeats 100000000 in
set_option maxRecDepth 100000 in
theorem spec_l14Event.spec (a0 : BoardEvent) (y : Bool) (H : spec_l14Event a0 = some y) : Spec Tryd.prog 87 [(.agg [(.v (.string a0.1)), (.v (.int .i64 a0.2.1))])] [] (spec_l14Event.res a0 y) (spec_l14Event.out a0 y) := by
  refine spec_intro (G23_ok.at tok []) (ct := []) Tryd.func87 rfl (by kernel_rfl) (by kernel_rfl) rfl ?_
  repeat' first
    | ((with_reducible refine eqg ?_); exact rfl)
    | ((with_reducible refine KOb.mk ?_); kernel_rfl)
    | ((with_reducible intro h); (repeat (first | replace H := grd_k H | replace H := out_step H (by assumption))); first | replace H := cond_t h H | replace H := cond_f h H | exact absurd h (by decide) | skip)
    | ((with_reducible refine Ob.mk ?_); first | (with_reducible rfl) | (first | ((repeat (first | (with_reducible exact grd_p H) | (replace H := grd_k H) | (replace H := out_step H (by assumption)))); done) | rfl | ((repeat (first | exact grd_p H | replace H := grd_k H | replace H := out_step H (by assumption))); done) | ((repeat (first | exact grd_p H | (have hp := grd_p H; exact hp) | replace H := grd_k H | replace H := out_step H (by assumption) | (replace H := bind_some H; obtain ⟨_, _, H⟩ := H))); done) | (repeat (first | exact grd_p H | replace H := grd_k H | replace H := out_step H (by assumption)))))
    | (with_reducible exact True.intro)
    | constructor
    | ((conv => whnf); first
        | ((with_reducible refine Ob.mk ?_); first | (with_reducible rfl) | (first | ((repeat (first | (with_reducible exact grd_p H) | (replace H := grd_k H) | (replace H := out_step H (by assumption)))); done) | rfl | ((repeat (first | exact grd_p H | replace H := grd_k H | replace H := out_step H (by assumption))); done) | ((repeat (first | exact grd_p H | (have hp := grd_p H; exact hp) | replace H := grd_k H | replace H := out_step H (by assumption) | (replace H := bind_some H; obtain ⟨_, _, H⟩ := H))); done) | (repeat (first | exact grd_p H | replace H := grd_k H | replace H := out_step H (by assumption)))))
        | ((with_reducible refine CallW.mk ?_); (repeat (first | replace H := grd_k H | replace H := out_step H (by assumption))); replace H := bind_some H; obtain ⟨y, hy, H⟩ := H; first | ((with_reducible have hz : spec_l14Most _ = some y := hy); clear hz; refine Exists.intro _ (Exists.intro _ ⟨spec_l14Most.call hy ?_, rfl, rfl, ?_⟩)) | ((with_reducible have hz : spec_l1In _ _ _ = some y := hy); clear hz; refine Exists.intro _ (Exists.intro _ ⟨spec_l1In.call hy ?_, rfl, rfl, ?_⟩)))
        | ((with_reducible refine fin_mk ?_); (repeat (first | replace H := grd_k H | replace H := out_step H (by assumption))); have H := Option.some.inj H; subst H))
def G24 : Env := G23.add 87 [] spec_l14Event.S
theorem G24_ok : EnvOk Tryd.prog G24 := G23_ok.add ent_87 fun ar h r h1 ⟨a0, y, hy, e1, e2, e3, e4⟩ => by
  subst e3 e4; exact (spec_l14Event.spec a0 y hy).le e1 e2
attribute [local irreducible] spec_l14Event

noncomputable def spec_l14Can (a0 : Platform) (a1 : BoardEvent) : Option (Bool) :=
  (cond (decide (a1.1 = (ByteArray.mk #[99, 111, 109, 101]))) ((some (decide (a0.2.1 = (0 : Int))))) (cond (decide (a1.1 = (ByteArray.mk #[111, 112, 101, 110]))) (cond (decide ((0 : Int) < a0.2.1)) ((some (decide (a0.1 = (0 : Int))))) ((some false))) (cond (decide (a1.1 = (ByteArray.mk #[115, 104, 117, 116]))) ((some (decide (a0.1 = (1 : Int))))) (cond (decide (a1.1 = (ByteArray.mk #[101, 110, 116, 101, 114]))) ((spec_l14Entering (a0.1, a0.2.1, a0.2.2.1, a0.2.2.2.1, a0.2.2.2.2.1, a0.2.2.2.2.2.1, ())).bind fun y1 => (some (decide (a1.2.1 ≤ y1)))) (cond (decide (a1.1 = (ByteArray.mk #[108, 101, 97, 118, 101]))) (cond (decide (a0.1 = (1 : Int))) ((some (decide (a1.2.1 ≤ a0.2.2.1)))) ((some false))) (cond (decide (a1.1 = (ByteArray.mk #[97, 114, 114, 105, 118, 101]))) ((some (decide ((w64 (a0.2.2.2.1 + a1.2.1)) ≤ (500 : Int))))) (cond (decide (a1.1 = (ByteArray.mk #[108, 101, 118, 101, 108]))) (cond (!a0.2.2.2.2.1) ((some (decide ((0 : Int) < a0.2.2.2.1)))) ((some false))) (cond (decide ((0 : Int) < a0.2.1)) (cond (decide (a0.1 = (0 : Int))) ((some (decide (a0.2.2.2.2.2.1 < (9999 : Int))))) ((some false))) ((some false))))))))))
def spec_l14Can.res (_ : Platform) (_ : BoardEvent) (y : Bool) : AV := (.bl y)
def spec_l14Can.out (_ : Platform) (_ : BoardEvent) (_ : Bool) : List (Option LB) := []
def spec_l14Can.S (ar : List AV) (h : List (Option LB)) (r : AV) (h1 : List (Option LB)) : Prop := ∃ a0 a1 y, spec_l14Can a0 a1 = some y ∧ leL ar [(.agg [(.v (.int .i64 a0.1)), (.v (.int .i64 a0.2.1)), (.v (.int .i64 a0.2.2.1)), (.v (.int .i64 a0.2.2.2.1)), (.bl a0.2.2.2.2.1), (.v (.int .i64 a0.2.2.2.2.2.1))]), (.agg [(.v (.string a1.1)), (.v (.int .i64 a1.2.1))])] ∧ leH h [] ∧ r = spec_l14Can.res a0 a1 y ∧ h1 = spec_l14Can.out a0 a1 y
theorem spec_l14Can.call {ar : List AV} {h : List (Option LB)} {a0 : Platform} {a1 : BoardEvent} {y : Bool} (H : spec_l14Can a0 a1 = some y) (h0 : leLk ar [(.agg [(.v (.int .i64 a0.1)), (.v (.int .i64 a0.2.1)), (.v (.int .i64 a0.2.2.1)), (.v (.int .i64 a0.2.2.2.1)), (.bl a0.2.2.2.2.1), (.v (.int .i64 a0.2.2.2.2.2.1))]), (.agg [(.v (.string a1.1)), (.v (.int .i64 a1.2.1))])] (leHk h [])) : spec_l14Can.S ar h (spec_l14Can.res a0 a1 y) (spec_l14Can.out a0 a1 y) := ⟨a0, a1, y, H, (args_ok h0).1, (args_ok h0).2, rfl, rfl⟩
set_option maxHeartbeats 100000000 in
set_option maxRecDepth 100000 in
theorem spec_l14Can.spec (a0 : Platform) (a1 : BoardEvent) (y : Bool) (H : spec_l14Can a0 a1 = some y) : Spec Tryd.prog 70 [(.agg [(.v (.int .i64 a0.1)), (.v (.int .i64 a0.2.1)), (.v (.int .i64 a0.2.2.1)), (.v (.int .i64 a0.2.2.2.1)), (.bl a0.2.2.2.2.1), (.v (.int .i64 a0.2.2.2.2.2.1))]), (.agg [(.v (.string a1.1)), (.v (.int .i64 a1.2.1))])] [] (spec_l14Can.res a0 a1 y) (spec_l14Can.out a0 a1 y) := by
  refine spec_intro (G24_ok.at tok []) (ct := [(11, some [2, 3, 6, 34, 40, 41, 42, 43, 44, 60, 61, 62, 68, 69, 70, 73, 74, 75]), (16, some [2, 68, 69, 70, 73, 74, 75])]) Tryd.func70 rfl (by kernel_rfl) (by kernel_rfl) rfl ?_
  repeat' first
    | ((with_reducible refine eqg ?_); exact rfl)
    | ((with_reducible refine KOb.mk ?_); kernel_rfl)
    | ((with_reducible intro h); (repeat (first | replace H := grd_k H | replace H := out_step H (by assumption))); first | replace H := cond_t h H | replace H := cond_f h H | exact absurd h (by decide) | skip)
    | ((with_reducible refine Ob.mk ?_); first | (with_reducible rfl) | (first | ((repeat (first | (with_reducible exact grd_p H) | (replace H := grd_k H) | (replace H := out_step H (by assumption)))); done) | rfl | ((repeat (first | exact grd_p H | replace H := grd_k H | replace H := out_step H (by assumption))); done) | ((repeat (first | exact grd_p H | (have hp := grd_p H; exact hp) | replace H := grd_k H | replace H := out_step H (by assumption) | (replace H := bind_some H; obtain ⟨_, _, H⟩ := H))); done) | (repeat (first | exact grd_p H | replace H := grd_k H | replace H := out_step H (by assumption)))))
    | (with_reducible exact True.intro)
    | constructor
    | ((conv => whnf); first
        | ((with_reducible refine Ob.mk ?_); first | (with_reducible rfl) | (first | ((repeat (first | (with_reducible exact grd_p H) | (replace H := grd_k H) | (replace H := out_step H (by assumption)))); done) | rfl | ((repeat (first | exact grd_p H | replace H := grd_k H | replace H := out_step H (by assumption))); done) | ((repeat (first | exact grd_p H | (have hp := grd_p H; exact hp) | replace H := grd_k H | replace H := out_step H (by assumption) | (replace H := bind_some H; obtain ⟨_, _, H⟩ := H))); done) | (repeat (first | exact grd_p H | replace H := grd_k H | replace H := out_step H (by assumption)))))
        | ((with_reducible refine CallW.mk ?_); (repeat (first | replace H := grd_k H | replace H := out_step H (by assumption))); replace H := bind_some H; obtain ⟨y, hy, H⟩ := H; first | ((with_reducible have hz : spec_l14Entering _ = some y := hy); clear hz; refine Exists.intro _ (Exists.intro _ ⟨spec_l14Entering.call hy ?_, rfl, rfl, ?_⟩)))
        | ((with_reducible refine fin_mk ?_); (repeat (first | replace H := grd_k H | replace H := out_step H (by assumption))); have H := Option.some.inj H; subst H))
def G25 : Env := G24.add 70 [] spec_l14Can.S
theorem G25_ok : EnvOk Tryd.prog G25 := G24_ok.add ent_70 fun ar h r h1 ⟨a0, a1, y, hy, e1, e2, e3, e4⟩ => by
  subst e3 e4; exact (spec_l14Can.spec a0 a1 y hy).le e1 e2
attribute [local irreducible] spec_l14Can

noncomputable def spec_l14Step (a0 : Platform) (a1 : BoardEvent) : Option (Platform × Bool) :=
  ((spec_l14Event (a1.1, a1.2.1, ())).bind fun y1 => (cond (!y1) ((some (((0 : Int), (0 : Int), (0 : Int), (0 : Int), false, (0 : Int), ()), false))) ((spec_l14Can (a0.1, a0.2.1, a0.2.2.1, a0.2.2.2.1, a0.2.2.2.2.1, a0.2.2.2.2.2.1, ()) (a1.1, a1.2.1, ())).bind fun y2 => (cond (!y2) ((some (((0 : Int), (0 : Int), (0 : Int), (0 : Int), false, (0 : Int), ()), false))) (cond (decide (a1.1 = (ByteArray.mk #[99, 111, 109, 101]))) ((some ((a0.1, a1.2.1, a0.2.2.1, a0.2.2.2.1, a0.2.2.2.2.1, a0.2.2.2.2.2.1, ()), true))) (cond (decide (a1.1 = (ByteArray.mk #[111, 112, 101, 110]))) ((some (((1 : Int), a0.2.1, a0.2.2.1, a0.2.2.2.1, a0.2.2.2.2.1, a0.2.2.2.2.2.1, ()), true))) (cond (decide (a1.1 = (ByteArray.mk #[115, 104, 117, 116]))) ((some (((0 : Int), a0.2.1, a0.2.2.1, a0.2.2.2.1, a0.2.2.2.2.1, a0.2.2.2.2.2.1, ()), true))) (cond (decide (a1.1 = (ByteArray.mk #[101, 110, 116, 101, 114]))) ((some ((a0.1, a0.2.1, (w64 (a0.2.2.1 + a1.2.1)), (w64 (a0.2.2.2.1 - a1.2.1)), false, a0.2.2.2.2.2.1, ()), true))) (cond (decide (a1.1 = (ByteArray.mk #[108, 101, 97, 118, 101]))) ((some ((a0.1, a0.2.1, (w64 (a0.2.2.1 - a1.2.1)), a0.2.2.2.1, a0.2.2.2.2.1, a0.2.2.2.2.2.1, ()), true))) (cond (decide (a1.1 = (ByteArray.mk #[97, 114, 114, 105, 118, 101]))) ((some ((a0.1, a0.2.1, a0.2.2.1, (w64 (a0.2.2.2.1 + a1.2.1)), a0.2.2.2.2.1, a0.2.2.2.2.2.1, ()), true))) (cond (decide (a1.1 = (ByteArray.mk #[108, 101, 118, 101, 108]))) ((some ((a0.1, a0.2.1, a0.2.2.1, a0.2.2.2.1, true, a0.2.2.2.2.2.1, ()), true))) (cond (decide (a1.1 = (ByteArray.mk #[103, 111]))) ((some ((a0.1, (0 : Int), (0 : Int), a0.2.2.2.1, a0.2.2.2.2.1, (w64 (a0.2.2.2.2.2.1 + (1 : Int))), ()), true))) ((some ((a0.1, a0.2.1, a0.2.2.1, a0.2.2.2.1, a0.2.2.2.2.1, a0.2.2.2.2.2.1, ()), true)))))))))))))))
def spec_l14Step.res (_ : Platform) (_ : BoardEvent) (y : Platform × Bool) : AV := (.tup [(.agg [(.v (.int .i64 y.1.1)), (.v (.int .i64 y.1.2.1)), (.v (.int .i64 y.1.2.2.1)), (.v (.int .i64 y.1.2.2.2.1)), (.bl y.1.2.2.2.2.1), (.v (.int .i64 y.1.2.2.2.2.2.1))]), (.bl y.2)])
def spec_l14Step.out (_ : Platform) (_ : BoardEvent) (_ : Platform × Bool) : List (Option LB) := []
def spec_l14Step.S (ar : List AV) (h : List (Option LB)) (r : AV) (h1 : List (Option LB)) : Prop := ∃ a0 a1 y, spec_l14Step a0 a1 = some y ∧ leL ar [(.agg [(.v (.int .i64 a0.1)), (.v (.int .i64 a0.2.1)), (.v (.int .i64 a0.2.2.1)), (.v (.int .i64 a0.2.2.2.1)), (.bl a0.2.2.2.2.1), (.v (.int .i64 a0.2.2.2.2.2.1))]), (.agg [(.v (.string a1.1)), (.v (.int .i64 a1.2.1))])] ∧ leH h [] ∧ r = spec_l14Step.res a0 a1 y ∧ h1 = spec_l14Step.out a0 a1 y
theorem spec_l14Step.call {ar : List AV} {h : List (Option LB)} {a0 : Platform} {a1 : BoardEvent} {y : Platform × Bool} (H : spec_l14Step a0 a1 = some y) (h0 : leLk ar [(.agg [(.v (.int .i64 a0.1)), (.v (.int .i64 a0.2.1)), (.v (.int .i64 a0.2.2.1)), (.v (.int .i64 a0.2.2.2.1)), (.bl a0.2.2.2.2.1), (.v (.int .i64 a0.2.2.2.2.2.1))]), (.agg [(.v (.string a1.1)), (.v (.int .i64 a1.2.1))])] (leHk h [])) : spec_l14Step.S ar h (spec_l14Step.res a0 a1 y) (spec_l14Step.out a0 a1 y) := ⟨a0, a1, y, H, (args_ok h0).1, (args_ok h0).2, rfl, rfl⟩
set_option maxHeartbeats 100000000 in
set_option maxRecDepth 100000 in
theorem spec_l14Step.spec (a0 : Platform) (a1 : BoardEvent) (y : Platform × Bool) (H : spec_l14Step a0 a1 = some y) : Spec Tryd.prog 76 [(.agg [(.v (.int .i64 a0.1)), (.v (.int .i64 a0.2.1)), (.v (.int .i64 a0.2.2.1)), (.v (.int .i64 a0.2.2.2.1)), (.bl a0.2.2.2.2.1), (.v (.int .i64 a0.2.2.2.2.2.1))]), (.agg [(.v (.string a1.1)), (.v (.int .i64 a1.2.1))])] [] (spec_l14Step.res a0 a1 y) (spec_l14Step.out a0 a1 y) := by
  refine spec_intro (G25_ok.at tok []) (ct := [(3, some [2, 3, 4]), (12, some [2, 3, 4]), (17, some [2, 3, 4, 17, 52]), (24, some [2, 4])]) Tryd.func76 rfl (by kernel_rfl) (by kernel_rfl) rfl ?_
  repeat' first
    | ((with_reducible refine eqg ?_); exact rfl)
    | ((with_reducible refine KOb.mk ?_); kernel_rfl)
    | ((with_reducible intro h); (repeat (first | replace H := grd_k H | replace H := out_step H (by assumption))); first | replace H := cond_t h H | replace H := cond_f h H | exact absurd h (by decide) | skip)
    | ((with_reducible refine Ob.mk ?_); first | (with_reducible rfl) | (first | ((repeat (first | (with_reducible exact grd_p H) | (replace H := grd_k H) | (replace H := out_step H (by assumption)))); done) | rfl | ((repeat (first | exact grd_p H | replace H := grd_k H | replace H := out_step H (by assumption))); done) | ((repeat (first | exact grd_p H | (have hp := grd_p H; exact hp) | replace H := grd_k H | replace H := out_step H (by assumption) | (replace H := bind_some H; obtain ⟨_, _, H⟩ := H))); done) | (repeat (first | exact grd_p H | replace H := grd_k H | replace H := out_step H (by assumption)))))
    | (with_reducible exact True.intro)
    | constructor
    | ((conv => whnf); first
        | ((with_reducible refine Ob.mk ?_); first | (with_reducible rfl) | (first | ((repeat (first | (with_reducible exact grd_p H) | (replace H := grd_k H) | (replace H := out_step H (by assumption)))); done) | rfl | ((repeat (first | exact grd_p H | replace H := grd_k H | replace H := out_step H (by assumption))); done) | ((repeat (first | exact grd_p H | (have hp := grd_p H; exact hp) | replace H := grd_k H | replace H := out_step H (by assumption) | (replace H := bind_some H; obtain ⟨_, _, H⟩ := H))); done) | (repeat (first | exact grd_p H | replace H := grd_k H | replace H := out_step H (by assumption)))))
        | ((with_reducible refine CallW.mk ?_); (repeat (first | replace H := grd_k H | replace H := out_step H (by assumption))); replace H := bind_some H; obtain ⟨y, hy, H⟩ := H; first | ((with_reducible have hz : spec_l14Event _ = some y := hy); clear hz; refine Exists.intro _ (Exists.intro _ ⟨spec_l14Event.call hy ?_, rfl, rfl, ?_⟩)) | ((with_reducible have hz : spec_l14Can _ _ = some y := hy); clear hz; refine Exists.intro _ (Exists.intro _ ⟨spec_l14Can.call hy ?_, rfl, rfl, ?_⟩)))
        | ((with_reducible refine fin_mk ?_); (repeat (first | replace H := grd_k H | replace H := out_step H (by assumption))); have H := Option.some.inj H; subst H))
def G26 : Env := G25.add 76 [] spec_l14Step.S
theorem G26_ok : EnvOk Tryd.prog G26 := G25_ok.add ent_76 fun ar h r h1 ⟨a0, a1, y, hy, e1, e2, e3, e4⟩ => by
  subst e3 e4; exact (spec_l14Step.spec a0 a1 y hy).le e1 e2
attribute [local irreducible] spec_l14Step

noncomputable def spec_QuickestGo_loop1  (v18 : Int) (v19 : Int) (v20 : Int) (v21 : Int) (v22 : Bool) (v23 : Int) (v24 : (List BoardEvent)) : Option (Lp (Int × Int × Int × Int × Bool × Int × (List BoardEvent)) ((Int × Int × Int × Int × Bool × Int × (List BoardEvent)))) :=
  ((spec_l14Entering (v18, v19, v20, v21, v22, v23, ())).bind fun y25 => (cond (decide ((0 : Int) < y25)) ((spec_l14Entering (v18, v19, v20, v21, v22, v23, ())).bind fun y26 => (grd (v24.length + [((ByteArray.mk #[101, 110, 116, 101, 114]), y26, ())].length ≤ 140737488355328 / 24 ∧ v24.length + [((ByteArray.mk #[101, 110, 116, 101, 114]), y26, ())].length ≤ 140737488355328) ((spec_l14Step (v18, v19, v20, v21, v22, v23, ()) ((ByteArray.mk #[101, 110, 116, 101, 114]), y26, ())).bind fun y27 => (some (.go (y27.1.1, y27.1.2.1, y27.1.2.2.1, y27.1.2.2.2.1, y27.1.2.2.2.2.1, y27.1.2.2.2.2.2.1, (v24 ++ [((ByteArray.mk #[101, 110, 116, 101, 114]), y26, ())]))))))) ((some (.out (v18, v19, v20, v21, v22, v23, v24))))))
noncomputable def spec_QuickestGo (a0 : Platform) : Option ((List BoardEvent) × Bool) :=
  ((spec_l14Good (a0.1, a0.2.1, a0.2.2.1, a0.2.2.2.1, a0.2.2.2.2.1, a0.2.2.2.2.2.1, ())).bind fun y1 => (cond (!y1) ((some (([] : List BoardEvent), false))) (cond (decide (a0.2.1 = (0 : Int))) ((some (([] : List BoardEvent), false))) (cond (decide (a0.2.2.2.2.2.1 = (9999 : Int))) ((some (([] : List BoardEvent), false))) ((cond (decide (a0.1 = (0 : Int))) (cond (decide ((0 : Int) < a0.2.2.2.1)) (cond (decide (a0.2.2.1 < a0.2.1)) (grd (([] : List BoardEvent).length + [((ByteArray.mk #[111, 112, 101, 110]), (0 : Int), ())].length ≤ 140737488355328 / 24 ∧ ([] : List BoardEvent).length + [((ByteArray.mk #[111, 112, 101, 110]), (0 : Int), ())].length ≤ 140737488355328) ((some ((1 : Int), (([] : List BoardEvent) ++ [((ByteArray.mk #[111, 112, 101, 110]), (0 : Int), ())]))))) ((some (a0.1, ([] : List BoardEvent))))) ((some (a0.1, ([] : List BoardEvent))))) ((some (a0.1, ([] : List BoardEvent))))).bind fun z2 => ((iter (fun s => spec_QuickestGo_loop1 s.1 s.2.1 s.2.2.1 s.2.2.2.1 s.2.2.2.2.1 s.2.2.2.2.2.1 s.2.2.2.2.2.2) (z2.1, a0.2.1, a0.2.2.1, a0.2.2.2.1, a0.2.2.2.2.1, a0.2.2.2.2.2.1, z2.2)).bind (fun r28 => (cond (decide (r28.1 = (1 : Int))) (grd (r28.2.2.2.2.2.2.length + [((ByteArray.mk #[115, 104, 117, 116]), (0 : Int), ())].length ≤ 140737488355328 / 24 ∧ r28.2.2.2.2.2.2.length + [((ByteArray.mk #[115, 104, 117, 116]), (0 : Int), ())].length ≤ 140737488355328) (grd ((r28.2.2.2.2.2.2 ++ [((ByteArray.mk #[115, 104, 117, 116]), (0 : Int), ())]).length + [((ByteArray.mk #[103, 111]), (0 : Int), ())].length ≤ 140737488355328 / 24 ∧ (r28.2.2.2.2.2.2 ++ [((ByteArray.mk #[115, 104, 117, 116]), (0 : Int), ())]).length + [((ByteArray.mk #[103, 111]), (0 : Int), ())].length ≤ 140737488355328) ((some (((r28.2.2.2.2.2.2 ++ [((ByteArray.mk #[115, 104, 117, 116]), (0 : Int), ())]) ++ [((ByteArray.mk #[103, 111]), (0 : Int), ())]), true))))) (grd (r28.2.2.2.2.2.2.length + [((ByteArray.mk #[103, 111]), (0 : Int), ())].length ≤ 140737488355328 / 24 ∧ r28.2.2.2.2.2.2.length + [((ByteArray.mk #[103, 111]), (0 : Int), ())].length ≤ 140737488355328) ((some ((r28.2.2.2.2.2.2 ++ [((ByteArray.mk #[103, 111]), (0 : Int), ())]), true))))))))))))
def spec_QuickestGo.res (_ : Platform) (y : (List BoardEvent) × Bool) : AV := (.tup [(.own 0), (.bl y.2)])
def spec_QuickestGo.out (_ : Platform) (y : (List BoardEvent) × Bool) : List (Option LB) := [some (.arr 52 ty_BoardEvent y.1)]
def spec_QuickestGo.S (ar : List AV) (h : List (Option LB)) (r : AV) (h1 : List (Option LB)) : Prop := ∃ a0 y, spec_QuickestGo a0 = some y ∧ leL ar [(.agg [(.v (.int .i64 a0.1)), (.v (.int .i64 a0.2.1)), (.v (.int .i64 a0.2.2.1)), (.v (.int .i64 a0.2.2.2.1)), (.bl a0.2.2.2.2.1), (.v (.int .i64 a0.2.2.2.2.2.1))])] ∧ leH h [] ∧ r = spec_QuickestGo.res a0 y ∧ h1 = spec_QuickestGo.out a0 y
theorem spec_QuickestGo.call {ar : List AV} {h : List (Option LB)} {a0 : Platform} {y : (List BoardEvent) × Bool} (H : spec_QuickestGo a0 = some y) (h0 : leLk ar [(.agg [(.v (.int .i64 a0.1)), (.v (.int .i64 a0.2.1)), (.v (.int .i64 a0.2.2.1)), (.v (.int .i64 a0.2.2.2.1)), (.bl a0.2.2.2.2.1), (.v (.int .i64 a0.2.2.2.2.2.1))])] (leHk h [])) : spec_QuickestGo.S ar h (spec_QuickestGo.res a0 y) (spec_QuickestGo.out a0 y) := ⟨a0, y, H, (args_ok h0).1, (args_ok h0).2, rfl, rfl⟩
set_option maxHeartbeats 100000000 in
set_option maxRecDepth 100000 in
theorem spec_QuickestGo.spec (a0 : Platform) (y : (List BoardEvent) × Bool) (H : spec_QuickestGo a0 = some y) : Spec Tryd.prog 47 [(.agg [(.v (.int .i64 a0.1)), (.v (.int .i64 a0.2.1)), (.v (.int .i64 a0.2.2.1)), (.v (.int .i64 a0.2.2.2.1)), (.bl a0.2.2.2.2.1), (.v (.int .i64 a0.2.2.2.2.2.1))])] [] (spec_QuickestGo.res a0 y) (spec_QuickestGo.out a0 y) := by
  refine spec_intro (G26_ok.at tok []) (ct := [(7, none), (3, some [1, 4, 19, 25, 26, 27, 30, 31, 32, 33, 34]), (5, some [1, 4, 35])]) Tryd.func47 rfl (by kernel_rfl) (by kernel_rfl) rfl ?_
  repeat' first
    | ((with_reducible refine eqg ?_); exact rfl)
    | ((with_reducible refine KOb.mk ?_); kernel_rfl)
    | ((with_reducible intro h); (repeat (first | replace H := grd_k H | replace H := out_step H (by assumption))); first | replace H := cond_t h H | replace H := cond_f h H | exact absurd h (by decide) | skip)
    | ((with_reducible refine Ob.mk ?_); first | (with_reducible rfl) | (first | ((repeat (first | (with_reducible exact grd_p H) | (replace H := grd_k H) | (replace H := out_step H (by assumption)))); done) | rfl | ((repeat (first | exact grd_p H | replace H := grd_k H | replace H := out_step H (by assumption))); done) | ((repeat (first | exact grd_p H | (have hp := grd_p H; exact hp) | replace H := grd_k H | replace H := out_step H (by assumption) | (replace H := bind_some H; obtain ⟨_, _, H⟩ := H))); done) | (repeat (first | exact grd_p H | replace H := grd_k H | replace H := out_step H (by assumption)))))
    | (with_reducible exact True.intro)
    | constructor
    | ((conv => whnf); first
        | ((with_reducible refine Ob.mk ?_); first | (with_reducible rfl) | (first | ((repeat (first | (with_reducible exact grd_p H) | (replace H := grd_k H) | (replace H := out_step H (by assumption)))); done) | rfl | ((repeat (first | exact grd_p H | replace H := grd_k H | replace H := out_step H (by assumption))); done) | ((repeat (first | exact grd_p H | (have hp := grd_p H; exact hp) | replace H := grd_k H | replace H := out_step H (by assumption) | (replace H := bind_some H; obtain ⟨_, _, H⟩ := H))); done) | (repeat (first | exact grd_p H | replace H := grd_k H | replace H := out_step H (by assumption)))))
        | ((with_reducible refine CallW.mk ?_); (repeat (first | replace H := grd_k H | replace H := out_step H (by assumption))); replace H := bind_some H; obtain ⟨y, hy, H⟩ := H; first | ((with_reducible have hz : spec_l14Good _ = some y := hy); clear hz; refine Exists.intro _ (Exists.intro _ ⟨spec_l14Good.call hy ?_, rfl, rfl, ?_⟩)) | ((with_reducible have hz : spec_l14Entering _ = some y := hy); clear hz; refine Exists.intro _ (Exists.intro _ ⟨spec_l14Entering.call hy ?_, rfl, rfl, ?_⟩)) | ((with_reducible have hz : spec_l14Step _ _ = some y := hy); clear hz; refine Exists.intro _ (Exists.intro _ ⟨spec_l14Step.call hy ?_, rfl, rfl, ?_⟩)))
        | ((repeat (first | replace H := grd_k H | replace H := out_step H (by assumption))); refine loop_iter (G26_ok.at tok []) (ct := [(7, none), (3, some [1, 4, 19, 25, 26, 27, 30, 31, 32, 33, 34]), (5, some [1, 4, 35])]) (F := (fun s1 : Int × Int × Int × Int × Bool × Int × (List BoardEvent) => ⟨sl [(1, (.loc 0 0 0)), (4, (.own 1))], [some (.box 42 [(.v (.int .i64 s1.1)), (.v (.int .i64 s1.2.1)), (.v (.int .i64 s1.2.2.1)), (.v (.int .i64 s1.2.2.2.1)), (.bl s1.2.2.2.2.1), (.v (.int .i64 s1.2.2.2.2.2.1))]), some (.arr 52 ty_BoardEvent s1.2.2.2.2.2.2)]⟩)) (step := (fun s : Int × Int × Int × Int × Bool × Int × (List BoardEvent) => spec_QuickestGo_loop1 s.1 s.2.1 s.2.2.1 s.2.2.2.1 s.2.2.2.2.1 s.2.2.2.2.2.1 s.2.2.2.2.2.2)) _ H (by kernel_rfl) (sub_auto ?_) ?_; rotate_left; (intro s1 r v hr H); rotate_right)
        | ((with_reducible refine cutAt (id := 7) ?_); (repeat (first | replace H := grd_k H | replace H := out_step H (by assumption))); first | (replace H := bind_some H; obtain ⟨z, hz, H⟩ := H; refine CutC.mk (id := 7) ⟨sl [(1, (.loc 0 0 0)), (4, (.own 1))], [some (.box 42 [(.v (.int .i64 z.1)), (.v (.int .i64 a0.2.1)), (.v (.int .i64 a0.2.2.1)), (.v (.int .i64 a0.2.2.2.1)), (.bl a0.2.2.2.2.1), (.v (.int .i64 a0.2.2.2.2.2.1))]), some (.arr 52 ty_BoardEvent z.2)]⟩ ?_ ?_; (replace H := hz)))
        | ((repeat (first | replace H := grd_k H | replace H := out_step H (by assumption))); have H := Option.some.inj H; subst H; with_reducible refine sub_auto ?_)
        | ((repeat (first | replace H := grd_k H | replace H := out_step H (by assumption))); refine again_step H (by assumption) (sub_auto ?_))
        | ((with_reducible refine fin_mk ?_); (repeat (first | replace H := grd_k H | replace H := out_step H (by assumption))); have H := Option.some.inj H; subst H))
def G27 : Env := G26.add 47 [] spec_QuickestGo.S
theorem G27_ok : EnvOk Tryd.prog G27 := G26_ok.add ent_47 fun ar h r h1 ⟨a0, y, hy, e1, e2, e3, e4⟩ => by
  subst e3 e4; exact (spec_QuickestGo.spec a0 y hy).le e1 e2
attribute [local irreducible] spec_QuickestGo

noncomputable def laws_rEvents_loop1 (a0 : (List BoardEvent)) (a1 : (List BoardEvent)) (v2 : Int) : Option (Lp (Int) ((Unit) ⊕ (Unit))) :=
  (cond (decide (v2 < (a0.length : Int))) (grd (0 ≤ v2 ∧ v2 < (a0.length : Int)) (grd (0 ≤ v2 ∧ v2 < (a1.length : Int)) (cond (!(decide (((a0.getD v2.toNat d_BoardEvent).1) = ((a1.getD v2.toNat d_BoardEvent).1)) && (decide (((a0.getD v2.toNat d_BoardEvent).2.1) = ((a1.getD v2.toNat d_BoardEvent).2.1)) && true))) ((some (.out (Sum.inl ())))) (some (.go (w64 (v2 + (1 : Int)))))))) ((some (.out (Sum.inr ())))))
noncomputable def laws_rEvents (a0 : (List BoardEvent)) (a1 : (List BoardEvent)) : Option (Bool) :=
  (cond (!decide ((a0.length : Int) = (a1.length : Int))) ((some false)) ((iter (fun s => laws_rEvents_loop1 a0 a1 s) (0 : Int)).bind (Sum.elim (fun _ => (some false)) (fun _ => (some true)))))
def laws_rEvents.res (_ : (List BoardEvent)) (_ : (List BoardEvent)) (y : Bool) : AV := (.bl y)
def laws_rEvents.out (_ : (List BoardEvent)) (_ : (List BoardEvent)) (_ : Bool) : List (Option LB) := []
def laws_rEvents.S (ar : List AV) (h : List (Option LB)) (r : AV) (h1 : List (Option LB)) : Prop := ∃ a0 a1 y, laws_rEvents a0 a1 = some y ∧ leL ar [(.tree ty_BoardEvent a0), (.tree ty_BoardEvent a1)] ∧ leH h [] ∧ r = laws_rEvents.res a0 a1 y ∧ h1 = laws_rEvents.out a0 a1 y
theorem laws_rEvents.call {ar : List AV} {h : List (Option LB)} {a0 : (List BoardEvent)} {a1 : (List BoardEvent)} {y : Bool} (H : laws_rEvents a0 a1 = some y) (h0 : leLk ar [(.tree ty_BoardEvent a0), (.tree ty_BoardEvent a1)] (leHk h [])) : laws_rEvents.S ar h (laws_rEvents.res a0 a1 y) (laws_rEvents.out a0 a1 y) := ⟨a0, a1, y, H, (args_ok h0).1, (args_ok h0).2, rfl, rfl⟩
set_option maxHeartbeats 100000000 in
set_option maxRecDepth 100000 in
theorem laws_rEvents.spec (a0 : (List BoardEvent)) (a1 : (List BoardEvent)) (y : Bool) (H : laws_rEvents a0 a1 = some y) : Spec Tryd.prog 52 [(.tree ty_BoardEvent a0), (.tree ty_BoardEvent a1)] [] (laws_rEvents.res a0 a1 y) (laws_rEvents.out a0 a1 y) := by
  refine spec_intro (G27_ok.at tok []) (ct := [(5, some [0, 1, 5])]) Tryd.func52 rfl (by kernel_rfl) (by kernel_rfl) rfl ?_
  repeat' first
    | ((with_reducible refine eqg ?_); exact rfl)
    | ((with_reducible refine KOb.mk ?_); kernel_rfl)
    | ((with_reducible intro h); (repeat (first | replace H := grd_k H | replace H := out_step H (by assumption))); first | replace H := cond_t h H | replace H := cond_f h H | exact absurd h (by decide) | skip)
    | ((with_reducible refine Ob.mk ?_); first | (with_reducible rfl) | (first | ((repeat (first | (with_reducible exact grd_p H) | (replace H := grd_k H) | (replace H := out_step H (by assumption)))); done) | rfl | ((repeat (first | exact grd_p H | replace H := grd_k H | replace H := out_step H (by assumption))); done) | ((repeat (first | exact grd_p H | (have hp := grd_p H; exact hp) | replace H := grd_k H | replace H := out_step H (by assumption) | (replace H := bind_some H; obtain ⟨_, _, H⟩ := H))); done) | (repeat (first | exact grd_p H | replace H := grd_k H | replace H := out_step H (by assumption)))))
    | (with_reducible exact True.intro)
    | constructor
    | ((conv => whnf); first
        | ((with_reducible refine Ob.mk ?_); first | (with_reducible rfl) | (first | ((repeat (first | (with_reducible exact grd_p H) | (replace H := grd_k H) | (replace H := out_step H (by assumption)))); done) | rfl | ((repeat (first | exact grd_p H | replace H := grd_k H | replace H := out_step H (by assumption))); done) | ((repeat (first | exact grd_p H | (have hp := grd_p H; exact hp) | replace H := grd_k H | replace H := out_step H (by assumption) | (replace H := bind_some H; obtain ⟨_, _, H⟩ := H))); done) | (repeat (first | exact grd_p H | replace H := grd_k H | replace H := out_step H (by assumption)))))
        | ((repeat (first | replace H := grd_k H | replace H := out_step H (by assumption))); refine loop_iter (G27_ok.at tok []) (ct := [(5, some [0, 1, 5])]) (F := (fun s1 : Int => ⟨sl [(0, (.tree ty_BoardEvent a0)), (1, (.tree ty_BoardEvent a1)), (5, (.v (.int .i64 s1)))], []⟩)) (step := (fun s : Int => laws_rEvents_loop1 _ _ s)) _ H (by kernel_rfl) (sub_auto ?_) ?_; rotate_left; (intro s1 r v hr H); rotate_right)
        | ((repeat (first | replace H := grd_k H | replace H := out_step H (by assumption))); refine again_step H (by assumption) (sub_auto ?_))
        | ((with_reducible refine fin_mk ?_); (repeat (first | replace H := grd_k H | replace H := out_step H (by assumption))); have H := Option.some.inj H; subst H))
def G28 : Env := G27.add 52 [] laws_rEvents.S
theorem G28_ok : EnvOk Tryd.prog G28 := G27_ok.add ent_52 fun ar h r h1 ⟨a0, a1, y, hy, e1, e2, e3, e4⟩ => by
  subst e3 e4; exact (laws_rEvents.spec a0 a1 y hy).le e1 e2
attribute [local irreducible] laws_rEvents

end Go.Proofs.YteckiilljhdkpaaDoor
