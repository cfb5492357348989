/-
  Contracts, printed by a program.
-/
import Derived.Test.YteckiilljhdkpaaDoorC323
namespace Go.Proofs.YteckiilljhdkpaaDoor
open Go.RowKit
attribute [local irreducible] Ob loopwp Sub Spec Fin Again CallW CutC KOb iter joinx outm

attribute [local irreducible] laws_toPlatform spec_l1In spec_l14Good spec_l14Most spec_l1Least spec_l14Entering spec_l14Can spec_PossibleKinds impl_within impl_IsPlatform impl_boardCounts slices_Index___string_string_ slices_Contains___string_string_ impl_IsBoardEvent impl_Platform_step impl_PossibleKinds laws_eqStringS laws_markText laws_markStringS laws_heldStringS laws_markStringS_i1 laws_FnExactPossibleKinds laws_szBoardEvent laws_toBoardEvent

noncomputable def spec_l14Event (a0 : BoardEvent) : Option (Bool) :=
  ((spec_l14Most a0.1).bind fun y1 => (cond (decide (y1 = (0 : Int))) (cond (decide (a0.2.1 = (0 : Int))) ((some true)) (cond (decide ((0 : Int) < y1)) ((spec_l1In a0.2.1 (1 : Int) y1).bind fun y2 => (some y2)) ((some false)))) (cond (decide ((0 : Int) < y1)) ((spec_l1In a0.2.1 (1 : Int) y1).bind fun y3 => (some y3)) ((some false)))))
def spec_l14Event.res (_ : BoardEvent) (y : Bool) : AV := (.bl y)
def spec_l14Event.out (_ : BoardEvent) (_ : Bool) : List (Option LB) := []
def spec_l14Event.S (ar : List AV) (h : List (Option LB)) (r : AV) (h1 : List (Option LB)) : Prop := ∃ a0 y, spec_l14Event a0 = some y ∧ leL ar [(.agg [(.v (.string a0.1)), (.v (.int .i64 a0.2.1))])] ∧ leH h [] ∧ r = spec_l14Event.res a0 y ∧ h1 = spec_l14Event.out a0 y
theorem spec_l14Event.call {ar : List AV} {h : List (Option LB)} {a0 : BoardEvent} {y : Bool} (H : spec_l14Event a0 = some y) (h0 : leLk ar [(.agg [(.v (.string a0.1)), (.v (.int .i64 a0.2.1))])] (leHk h [])) : spec_l14Event.S ar h (spec_l14Event.res a0 y) (spec_l14Event.out a0 y) := ⟨a0, y, H, (args_ok h0).1, (args_ok h0).2, rfl, rfl⟩
set_option maxHeartbeats 100000000 in
set_option maxRecDepth 100000 in
theorem spec_l14Event.spec (a0 : BoardEvent) (y : Bool) (H : spec_l14Event a0 = some y) : Spec Tryd.prog 87 [(.agg [(.v (.string a0.1)), (.v (.int .i64 a0.2.1))])] [] (spec_l14Event.res a0 y) (spec_l14Event.out a0 y) := by
  refine spec_intro (G24_ok.at tok []) (ct := []) Tryd.func87 rfl (by kernel_rfl) (by kernel_rfl) rfl ?_
  repeat' first
    | ((with_reducible refine eqg ?_); exact rfl)
    | ((with_reducible refine KOb.mk ?_); kernel_rfl)
    | ((with_reducible intro h); (repeat (first | replace H := grd_k H | replace H := out_step H (by assumption))); first | replace H := cond_t h H | replace H := cond_f h H | exact absurd h (by decide) | skip)
    | ((with_reducible refine Ob.mk ?_); first | (with_reducible rfl) | (first | ((repeat (first | (with_reducible exact grd_p H) | (replace H := grd_k H) | (replace H := out_step H (by assumption)))); done) | rfl | ((repeat (first | exact grd_p H | replace H := grd_k H | replace H := out_step H (by assumption))); done) | ((repeat (first | exact grd_p H | (have hp := grd_p H; exact hp) | replace H := grd_k H | replace H := out_step H (by assumption) | (replace H := bind_some H; obtain ⟨_, _, H⟩ := H))); done) | (repeat (first | exact grd_p H | replace H := grd_k H | replace H := out_step H (by assumption)))))
    | (with_reducible exact True.intro)
    | constructor
    | ((conv => whnf); first
        | ((with_reducible refine Ob.mk ?_); first | (with_reducible rfl) | (first | ((repeat (first | (with_reducible exact grd_p H) | (replace H := grd_k H) | (replace H := out_step H (by assumption)))); done) | rfl | ((repeat (first | exact grd_p H | replace H := grd_k H | replace H := out_step H (by assumption))); done) | ((repeat (first | exact grd_p H | (have hp := grd_p H; exact hp) | replace H := grd_k H | replace H := out_step H (by assumption) | (replace H := bind_some H; obtain ⟨_, _, H⟩ := H))); done) | (repeat (first | exact grd_p H | replace H := grd_k H | replace H := out_step H (by assumption)))))
        | ((with_reducible refine CallW.mk ?_); (repeat (first | replace H := grd_k H | replace H := out_step H (by assumption))); replace H := bind_some H; obtain ⟨y, hy, H⟩ := H; first | ((with_reducible have hz : spec_l14Most _ = some y := hy); clear hz; refine Exists.intro _ (Exists.intro _ ⟨spec_l14Most.call hy ?_, rfl, rfl, ?_⟩)) | ((with_reducible have hz : spec_l1In _ _ _ = some y := hy); clear hz; refine Exists.intro _ (Exists.intro _ ⟨spec_l1In.call hy ?_, rfl, rfl, ?_⟩)))
        | ((with_reducible refine fin_mk ?_); (repeat (first | replace H := grd_k H | replace H := out_step H (by assumption))); have H := Option.some.inj H; subst H))
def G25 : Env := G24.add 87 [] spec_l14Event.S
theorem G25_ok : EnvOk Tryd.prog G25 := G24_ok.add ent_87 fun ar h r h1 ⟨a0, y, hy, e1, e2, e3, e4⟩ => by
  subst e3 e4; exact (spec_l14Event.spec a0 y hy).le e1 e2
attribute [local irreducible] spec_l14Event

noncomputable def spec_l14Step (a0 : Platform) (a1 : BoardEvent) : Option (Platform × Bool) :=
  ((spec_l14Event (a1.1, a1.2.1, ())).bind fun y1 => (cond (!y1) ((some (((0 : Int), (0 : Int), (0 : Int), (0 : Int), false, (0 : Int), ()), false))) ((spec_l14Can (a0.1, a0.2.1, a0.2.2.1, a0.2.2.2.1, a0.2.2.2.2.1, a0.2.2.2.2.2.1, ()) (a1.1, a1.2.1, ())).bind fun y2 => (cond (!y2) ((some (((0 : Int), (0 : Int), (0 : Int), (0 : Int), false, (0 : Int), ()), false))) (cond (decide (a1.1 = (ByteArray.mk #[99, 111, 109, 101]))) ((some ((a0.1, a1.2.1, a0.2.2.1, a0.2.2.2.1, a0.2.2.2.2.1, a0.2.2.2.2.2.1, ()), true))) (cond (decide (a1.1 = (ByteArray.mk #[111, 112, 101, 110]))) ((some (((1 : Int), a0.2.1, a0.2.2.1, a0.2.2.2.1, a0.2.2.2.2.1, a0.2.2.2.2.2.1, ()), true))) (cond (decide (a1.1 = (ByteArray.mk #[115, 104, 117, 116]))) ((some (((0 : Int), a0.2.1, a0.2.2.1, a0.2.2.2.1, a0.2.2.2.2.1, a0.2.2.2.2.2.1, ()), true))) (cond (decide (a1.1 = (ByteArray.mk #[101, 110, 116, 101, 114]))) ((some ((a0.1, a0.2.1, (w64 (a0.2.2.1 + a1.2.1)), (w64 (a0.2.2.2.1 - a1.2.1)), false, a0.2.2.2.2.2.1, ()), true))) (cond (decide (a1.1 = (ByteArray.mk #[108, 101, 97, 118, 101]))) ((some ((a0.1, a0.2.1, (w64 (a0.2.2.1 - a1.2.1)), a0.2.2.2.1, a0.2.2.2.2.1, a0.2.2.2.2.2.1, ()), true))) (cond (decide (a1.1 = (ByteArray.mk #[97, 114, 114, 105, 118, 101]))) ((some ((a0.1, a0.2.1, a0.2.2.1, (w64 (a0.2.2.2.1 + a1.2.1)), a0.2.2.2.2.1, a0.2.2.2.2.2.1, ()), true))) (cond (decide (a1.1 = (ByteArray.mk #[108, 101, 118, 101, 108]))) ((some ((a0.1, a0.2.1, a0.2.2.1, a0.2.2.2.1, true, a0.2.2.2.2.2.1, ()), true))) (cond (decide (a1.1 = (ByteArray.mk #[103, 111]))) ((some ((a0.1, (0 : Int), (0 : Int), a0.2.2.2.1, a0.2.2.2.2.1, (w64 (a0.2.2.2.2.2.1 + (1 : Int))), ()), true))) ((some ((a0.1, a0.2.1, a0.2.2.1, a0.2.2.2.1, a0.2.2.2.2.1, a0.2.2.2.2.2.1, ()), true)))))))))))))))
def spec_l14Step.res (_ : Platform) (_ : BoardEvent) (y : Platform × Bool) : AV := (.tup [(.agg [(.v (.int .i64 y.1.1)), (.v (.int .i64 y.1.2.1)), (.v (.int .i64 y.1.2.2.1)), (.v (.int .i64 y.1.2.2.2.1)), (.bl y.1.2.2.2.2.1), (.v (.int .i64 y.1.2.2.2.2.2.1))]), (.bl y.2)])
def spec_l14Step.out (_ : Platform) (_ : BoardEvent) (_ : Platform × Bool) : List (Option LB) := []
def spec_l14Step.S (ar : List AV) (h : List (Option LB)) (r : AV) (h1 : List (Option LB)) : Prop := ∃ a0 a1 y, spec_l14Step a0 a1 = some y ∧ leL ar [(.agg [(.v (.int .i64 a0.1)), (.v (.int .i64 a0.2.1)), (.v (.int .i64 a0.2.2.1)), (.v (.int .i64 a0.2.2.2.1)), (.bl a0.2.2.2.2.1), (.v (.int .i64 a0.2.2.2.2.2.1))]), (.agg [(.v (.string a1.1)), (.v (.int .i64 a1.2.1))])] ∧ leH h [] ∧ r = spec_l14Step.res a0 a1 y ∧ h1 = spec_l14Step.out a0 a1 y
theorem spec_l14Step.call {ar : List AV} {h : List (Option LB)} {a0 : Platform} {a1 : BoardEvent} {y : Platform × Bool} (H : spec_l14Step a0 a1 = some y) (h0 : leLk ar [(.agg [(.v (.int .i64 a0.1)), (.v (.int .i64 a0.2.1)), (.v (.int .i64 a0.2.2.1)), (.v (.int .i64 a0.2.2.2.1)), (.bl a0.2.2.2.2.1), (.v (.int .i64 a0.2.2.2.2.2.1))]), (.agg [(.v (.string a1.1)), (.v (.int .i64 a1.2.1))])] (leHk h [])) : spec_l14Step.S ar h (spec_l14Step.res a0 a1 y) (spec_l14Step.out a0 a1 y) := ⟨a0, a1, y, H, (args_ok h0).1, (args_ok h0).2, rfl, rfl⟩
set_option maxHeartbeats 100000000 in
set_option maxRecDepth 100000 in
theorem spec_l14Step.spec (a0 : Platform) (a1 : BoardEvent) (y : Platform × Bool) (H : spec_l14Step a0 a1 = some y) : Spec Tryd.prog 76 [(.agg [(.v (.int .i64 a0.1)), (.v (.int .i64 a0.2.1)), (.v (.int .i64 a0.2.2.1)), (.v (.int .i64 a0.2.2.2.1)), (.bl a0.2.2.2.2.1), (.v (.int .i64 a0.2.2.2.2.2.1))]), (.agg [(.v (.string a1.1)), (.v (.int .i64 a1.2.1))])] [] (spec_l14Step.res a0 a1 y) (spec_l14Step.out a0 a1 y) := by
  refine spec_intro (G25_ok.at tok []) (ct := [(3, some [2, 3, 4]), (12, some [2, 3, 4]), (17, some [2, 3, 4, 17, 52]), (24, some [2, 4])]) Tryd.func76 rfl (by kernel_rfl) (by kernel_rfl) rfl ?_
  repeat' first
    | ((with_reducible refine eqg ?_); exact rfl)
    | ((with_reducible refine KOb.mk ?_); kernel_rfl)
    | ((with_reducible intro h); (repeat (first | replace H := grd_k H | replace H := out_step H (by assumption))); first | replace H := cond_t h H | replace H := cond_f h H | exact absurd h (by decide) | skip)
    | ((with_reducible refine Ob.mk ?_); first | (with_reducible rfl) | (first | ((repeat (first | (with_reducible exact grd_p H) | (replace H := grd_k H) | (replace H := out_step H (by assumption)))); done) | rfl | ((repeat (first | exact grd_p H | replace H := grd_k H | replace H := out_step H (by assumption))); done) | ((repeat (first | exact grd_p H | (have hp := grd_p H; exact hp) | replace H := grd_k H | replace H := out_step H (by assumption) | (replace H := bind_some H; obtain ⟨_, _, H⟩ := H))); done) | (repeat (first | exact grd_p H | replace H := grd_k H | replace H := out_step H (by assumption)))))
    | (with_reducible exact True.intro)
    | constructor
    | ((conv => whnf); first
        | ((with_reducible refine Ob.mk ?_); first | (with_reducible rfl) | (first | ((repeat (first | (with_reducible exact grd_p H) | (replace H := grd_k H) | (replace H := out_step H (by assumption)))); done) | rfl | ((repeat (first | exact grd_p H | replace H := grd_k H | replace H := out_step H (by assumption))); done) | ((repeat (first | exact grd_p H | (have hp := grd_p H; exact hp) | replace H := grd_k H | replace H := out_step H (by assumption) | (replace H := bind_some H; obtain ⟨_, _, H⟩ := H))); done) | (repeat (first | exact grd_p H | replace H := grd_k H | replace H := out_step H (by assumption)))))
        | ((with_reducible refine CallW.mk ?_); (repeat (first | replace H := grd_k H | replace H := out_step H (by assumption))); replace H := bind_some H; obtain ⟨y, hy, H⟩ := H; first | ((with_reducible have hz : spec_l14Event _ = some y := hy); clear hz; refine Exists.intro _ (Exists.intro _ ⟨spec_l14Event.call hy ?_, rfl, rfl, ?_⟩)) | ((with_reducible have hz : spec_l14Can _ _ = some y := hy); clear hz; refine Exists.intro _ (Exists.intro _ ⟨spec_l14Can.call hy ?_, rfl, rfl, ?_⟩)))
        | ((with_reducible refine fin_mk ?_); (repeat (first | replace H := grd_k H | replace H := out_step H (by assumption))); have H := Option.some.inj H; subst H))
def G26 : Env := G25.add 76 [] spec_l14Step.S
theorem G26_ok : EnvOk Tryd.prog G26 := G25_ok.add ent_76 fun ar h r h1 ⟨a0, a1, y, hy, e1, e2, e3, e4⟩ => by
  subst e3 e4; exact (spec_l14Step.spec a0 a1 y hy).le e1 e2
attribute [local irreducible] spec_l14Step

noncomputable def spec_StepPlatform (a0 : Platform) (a1 : BoardEvent) : Option (Platform × Bool) :=
  ((spec_l14Good (a0.1, a0.2.1, a0.2.2.1, a0.2.2.2.1, a0.2.2.2.2.1, a0.2.2.2.2.2.1, ())).bind fun y1 => (cond (!y1) ((some (((0 : Int), (0 : Int), (0 : Int), (0 : Int), false, (0 : Int), ()), false))) ((spec_l14Step (a0.1, a0.2.1, a0.2.2.1, a0.2.2.2.1, a0.2.2.2.2.1, a0.2.2.2.2.2.1, ()) (a1.1, a1.2.1, ())).bind fun y2 => (some ((y2.1.1, y2.1.2.1, y2.1.2.2.1, y2.1.2.2.2.1, y2.1.2.2.2.2.1, y2.1.2.2.2.2.2.1, ()), y2.2)))))
def spec_StepPlatform.res (_ : Platform) (_ : BoardEvent) (y : Platform × Bool) : AV := (.tup [(.agg [(.v (.int .i64 y.1.1)), (.v (.int .i64 y.1.2.1)), (.v (.int .i64 y.1.2.2.1)), (.v (.int .i64 y.1.2.2.2.1)), (.bl y.1.2.2.2.2.1), (.v (.int .i64 y.1.2.2.2.2.2.1))]), (.bl y.2)])
def spec_StepPlatform.out (_ : Platform) (_ : BoardEvent) (_ : Platform × Bool) : List (Option LB) := []
def spec_StepPlatform.S (ar : List AV) (h : List (Option LB)) (r : AV) (h1 : List (Option LB)) : Prop := ∃ a0 a1 y, spec_StepPlatform a0 a1 = some y ∧ leL ar [(.agg [(.v (.int .i64 a0.1)), (.v (.int .i64 a0.2.1)), (.v (.int .i64 a0.2.2.1)), (.v (.int .i64 a0.2.2.2.1)), (.bl a0.2.2.2.2.1), (.v (.int .i64 a0.2.2.2.2.2.1))]), (.agg [(.v (.string a1.1)), (.v (.int .i64 a1.2.1))])] ∧ leH h [] ∧ r = spec_StepPlatform.res a0 a1 y ∧ h1 = spec_StepPlatform.out a0 a1 y
theorem spec_StepPlatform.call {ar : List AV} {h : List (Option LB)} {a0 : Platform} {a1 : BoardEvent} {y : Platform × Bool} (H : spec_StepPlatform a0 a1 = some y) (h0 : leLk ar [(.agg [(.v (.int .i64 a0.1)), (.v (.int .i64 a0.2.1)), (.v (.int .i64 a0.2.2.1)), (.v (.int .i64 a0.2.2.2.1)), (.bl a0.2.2.2.2.1), (.v (.int .i64 a0.2.2.2.2.2.1))]), (.agg [(.v (.string a1.1)), (.v (.int .i64 a1.2.1))])] (leHk h [])) : spec_StepPlatform.S ar h (spec_StepPlatform.res a0 a1 y) (spec_StepPlatform.out a0 a1 y) := ⟨a0, a1, y, H, (args_ok h0).1, (args_ok h0).2, rfl, rfl⟩
set_option maxHeartbeats 100000000 in
set_option maxRecDepth 100000 in
theorem spec_StepPlatform.spec (a0 : Platform) (a1 : BoardEvent) (y : Platform × Bool) (H : spec_StepPlatform a0 a1 = some y) : Spec Tryd.prog 27 [(.agg [(.v (.int .i64 a0.1)), (.v (.int .i64 a0.2.1)), (.v (.int .i64 a0.2.2.1)), (.v (.int .i64 a0.2.2.2.1)), (.bl a0.2.2.2.2.1), (.v (.int .i64 a0.2.2.2.2.2.1))]), (.agg [(.v (.string a1.1)), (.v (.int .i64 a1.2.1))])] [] (spec_StepPlatform.res a0 a1 y) (spec_StepPlatform.out a0 a1 y) := by
  refine spec_intro (G26_ok.at tok []) (ct := [(4, some [4, 6, 7])]) Tryd.func27 rfl (by kernel_rfl) (by kernel_rfl) rfl ?_
  repeat' first
    | ((with_reducible refine eqg ?_); exact rfl)
    | ((with_reducible refine KOb.mk ?_); kernel_rfl)
    | ((with_reducible intro h); (repeat (first | replace H := grd_k H | replace H := out_step H (by assumption))); first | replace H := cond_t h H | replace H := cond_f h H | exact absurd h (by decide) | skip)
    | ((with_reducible refine Ob.mk ?_); first | (with_reducible rfl) | (first | ((repeat (first | (with_reducible exact grd_p H) | (replace H := grd_k H) | (replace H := out_step H (by assumption)))); done) | rfl | ((repeat (first | exact grd_p H | replace H := grd_k H | replace H := out_step H (by assumption))); done) | ((repeat (first | exact grd_p H | (have hp := grd_p H; exact hp) | replace H := grd_k H | replace H := out_step H (by assumption) | (replace H := bind_some H; obtain ⟨_, _, H⟩ := H))); done) | (repeat (first | exact grd_p H | replace H := grd_k H | replace H := out_step H (by assumption)))))
    | (with_reducible exact True.intro)
    | constructor
    | ((conv => whnf); first
        | ((with_reducible refine Ob.mk ?_); first | (with_reducible rfl) | (first | ((repeat (first | (with_reducible exact grd_p H) | (replace H := grd_k H) | (replace H := out_step H (by assumption)))); done) | rfl | ((repeat (first | exact grd_p H | replace H := grd_k H | replace H := out_step H (by assumption))); done) | ((repeat (first | exact grd_p H | (have hp := grd_p H; exact hp) | replace H := grd_k H | replace H := out_step H (by assumption) | (replace H := bind_some H; obtain ⟨_, _, H⟩ := H))); done) | (repeat (first | exact grd_p H | replace H := grd_k H | replace H := out_step H (by assumption)))))
        | ((with_reducible refine CallW.mk ?_); (repeat (first | replace H := grd_k H | replace H := out_step H (by assumption))); replace H := bind_some H; obtain ⟨y, hy, H⟩ := H; first | ((with_reducible have hz : spec_l14Good _ = some y := hy); clear hz; refine Exists.intro _ (Exists.intro _ ⟨spec_l14Good.call hy ?_, rfl, rfl, ?_⟩)) | ((with_reducible have hz : spec_l14Step _ _ = some y := hy); clear hz; refine Exists.intro _ (Exists.intro _ ⟨spec_l14Step.call hy ?_, rfl, rfl, ?_⟩)))
        | ((with_reducible refine fin_mk ?_); (repeat (first | replace H := grd_k H | replace H := out_step H (by assumption))); have H := Option.some.inj H; subst H))
def G27 : Env := G26.add 27 [] spec_StepPlatform.S
theorem G27_ok : EnvOk Tryd.prog G27 := G26_ok.add ent_27 fun ar h r h1 ⟨a0, a1, y, hy, e1, e2, e3, e4⟩ => by
  subst e3 e4; exact (spec_StepPlatform.spec a0 a1 y hy).le e1 e2
attribute [local irreducible] spec_StepPlatform

noncomputable def impl_StepPlatform (a0 : Platform) (a1 : BoardEvent) : Option (Platform × Bool) :=
  ((impl_IsPlatform (a0.1, a0.2.1, a0.2.2.1, a0.2.2.2.1, a0.2.2.2.2.1, a0.2.2.2.2.2.1, ())).bind fun y1 => (cond (!y1) ((some (((0 : Int), (0 : Int), (0 : Int), (0 : Int), false, (0 : Int), ()), false))) ((impl_Platform_step (a0.1, a0.2.1, a0.2.2.1, a0.2.2.2.1, a0.2.2.2.2.1, a0.2.2.2.2.2.1, ()) (a1.1, a1.2.1, ())).bind fun y2 => (cond (!y2.2) ((some (((0 : Int), (0 : Int), (0 : Int), (0 : Int), false, (0 : Int), ()), false))) ((some ((y2.1.1, y2.1.2.1, y2.1.2.2.1, y2.1.2.2.2.1, y2.1.2.2.2.2.1, y2.1.2.2.2.2.2.1, ()), true)))))))
def impl_StepPlatform.res (_ : Platform) (_ : BoardEvent) (y : Platform × Bool) : AV := (.tup [(.agg [(.v (.int .i64 y.1.1)), (.v (.int .i64 y.1.2.1)), (.v (.int .i64 y.1.2.2.1)), (.v (.int .i64 y.1.2.2.2.1)), (.bl y.1.2.2.2.2.1), (.v (.int .i64 y.1.2.2.2.2.2.1))]), (.bl y.2)])
def impl_StepPlatform.out (_ : Platform) (_ : BoardEvent) (_ : Platform × Bool) : List (Option LB) := []
def impl_StepPlatform.S (ar : List AV) (h : List (Option LB)) (r : AV) (h1 : List (Option LB)) : Prop := ∃ a0 a1 y, impl_StepPlatform a0 a1 = some y ∧ leL ar [(.agg [(.v (.int .i64 a0.1)), (.v (.int .i64 a0.2.1)), (.v (.int .i64 a0.2.2.1)), (.v (.int .i64 a0.2.2.2.1)), (.bl a0.2.2.2.2.1), (.v (.int .i64 a0.2.2.2.2.2.1))]), (.agg [(.v (.string a1.1)), (.v (.int .i64 a1.2.1))])] ∧ leH h [] ∧ r = impl_StepPlatform.res a0 a1 y ∧ h1 = impl_StepPlatform.out a0 a1 y
theorem impl_StepPlatform.call {ar : List AV} {h : List (Option LB)} {a0 : Platform} {a1 : BoardEvent} {y : Platform × Bool} (H : impl_StepPlatform a0 a1 = some y) (h0 : leLk ar [(.agg [(.v (.int .i64 a0.1)), (.v (.int .i64 a0.2.1)), (.v (.int .i64 a0.2.2.1)), (.v (.int .i64 a0.2.2.2.1)), (.bl a0.2.2.2.2.1), (.v (.int .i64 a0.2.2.2.2.2.1))]), (.agg [(.v (.string a1.1)), (.v (.int .i64 a1.2.1))])] (leHk h [])) : impl_StepPlatform.S ar h (impl_StepPlatform.res a0 a1 y) (impl_StepPlatform.out a0 a1 y) := ⟨a0, a1, y, H, (args_ok h0).1, (args_ok h0).2, rfl, rfl⟩
set_option maxHeartbeats 100000000 in
set_option maxRecDepth 100000 in
theorem impl_StepPlatform.spec (a0 : Platform) (a1 : BoardEvent) (y : Platform × Bool) (H : impl_StepPlatform a0 a1 = some y) : Spec Tryd.prog 29 [(.agg [(.v (.int .i64 a0.1)), (.v (.int .i64 a0.2.1)), (.v (.int .i64 a0.2.2.1)), (.v (.int .i64 a0.2.2.2.1)), (.bl a0.2.2.2.2.1), (.v (.int .i64 a0.2.2.2.2.2.1))]), (.agg [(.v (.string a1.1)), (.v (.int .i64 a1.2.1))])] [] (impl_StepPlatform.res a0 a1 y) (impl_StepPlatform.out a0 a1 y) := by
  refine spec_intro (G27_ok.at tok []) (ct := [(4, some [4, 6, 7])]) Tryd.func29 rfl (by kernel_rfl) (by kernel_rfl) rfl ?_
  repeat' first
    | ((with_reducible refine eqg ?_); exact rfl)
    | ((with_reducible refine KOb.mk ?_); kernel_rfl)
    | ((with_reducible intro h); (repeat (first | replace H := grd_k H | replace H := out_step H (by assumption))); first | replace H := cond_t h H | replace H := cond_f h H | exact absurd h (by decide) | skip)
    | ((with_reducible refine Ob.mk ?_); first | (with_reducible rfl) | (first | ((repeat (first | (with_reducible exact grd_p H) | (replace H := grd_k H) | (replace H := out_step H (by assumption)))); done) | rfl | ((repeat (first | exact grd_p H | replace H := grd_k H | replace H := out_step H (by assumption))); done) | ((repeat (first | exact grd_p H | (have hp := grd_p H; exact hp) | replace H := grd_k H | replace H := out_step H (by assumption) | (replace H := bind_some H; obtain ⟨_, _, H⟩ := H))); done) | (repeat (first | exact grd_p H | replace H := grd_k H | replace H := out_step H (by assumption)))))
    | (with_reducible exact True.intro)
    | constructor
    | ((conv => whnf); first
        | ((with_reducible refine Ob.mk ?_); first | (with_reducible rfl) | (first | ((repeat (first | (with_reducible exact grd_p H) | (replace H := grd_k H) | (replace H := out_step H (by assumption)))); done) | rfl | ((repeat (first | exact grd_p H | replace H := grd_k H | replace H := out_step H (by assumption))); done) | ((repeat (first | exact grd_p H | (have hp := grd_p H; exact hp) | replace H := grd_k H | replace H := out_step H (by assumption) | (replace H := bind_some H; obtain ⟨_, _, H⟩ := H))); done) | (repeat (first | exact grd_p H | replace H := grd_k H | replace H := out_step H (by assumption)))))
        | ((with_reducible refine CallW.mk ?_); (repeat (first | replace H := grd_k H | replace H := out_step H (by assumption))); replace H := bind_some H; obtain ⟨y, hy, H⟩ := H; first | ((with_reducible have hz : impl_IsPlatform _ = some y := hy); clear hz; refine Exists.intro _ (Exists.intro _ ⟨impl_IsPlatform.call hy ?_, rfl, rfl, ?_⟩)) | ((with_reducible have hz : impl_Platform_step _ _ = some y := hy); clear hz; refine Exists.intro _ (Exists.intro _ ⟨impl_Platform_step.call hy ?_, rfl, rfl, ?_⟩)))
        | ((with_reducible refine fin_mk ?_); (repeat (first | replace H := grd_k H | replace H := out_step H (by assumption))); have H := Option.some.inj H; subst H))
def G28 : Env := G27.add 29 [] impl_StepPlatform.S
theorem G28_ok : EnvOk Tryd.prog G28 := G27_ok.add ent_29 fun ar h r h1 ⟨a0, a1, y, hy, e1, e2, e3, e4⟩ => by
  subst e3 e4; exact (impl_StepPlatform.spec a0 a1 y hy).le e1 e2
attribute [local irreducible] impl_StepPlatform

noncomputable def laws_eqPlatform (a0 : Platform) (a1 : Platform) : Option (Bool) :=
  (cond (!decide (a0.1 = a1.1)) ((some false)) (cond (!decide (a0.2.1 = a1.2.1)) ((some false)) (cond (!decide (a0.2.2.1 = a1.2.2.1)) ((some false)) (cond (!decide (a0.2.2.2.1 = a1.2.2.2.1)) ((some false)) (cond (!(a0.2.2.2.2.1 == a1.2.2.2.2.1)) ((some false)) (cond (!decide (a0.2.2.2.2.2.1 = a1.2.2.2.2.2.1)) ((some false)) ((some true))))))))
def laws_eqPlatform.res (_ : Platform) (_ : Platform) (y : Bool) : AV := (.bl y)
def laws_eqPlatform.out (_ : Platform) (_ : Platform) (_ : Bool) : List (Option LB) := []
def laws_eqPlatform.S (ar : List AV) (h : List (Option LB)) (r : AV) (h1 : List (Option LB)) : Prop := ∃ a0 a1 y, laws_eqPlatform a0 a1 = some y ∧ leL ar [(.agg [(.v (.int .i64 a0.1)), (.v (.int .i64 a0.2.1)), (.v (.int .i64 a0.2.2.1)), (.v (.int .i64 a0.2.2.2.1)), (.bl a0.2.2.2.2.1), (.v (.int .i64 a0.2.2.2.2.2.1))]), (.agg [(.v (.int .i64 a1.1)), (.v (.int .i64 a1.2.1)), (.v (.int .i64 a1.2.2.1)), (.v (.int .i64 a1.2.2.2.1)), (.bl a1.2.2.2.2.1), (.v (.int .i64 a1.2.2.2.2.2.1))])] ∧ leH h [] ∧ r = laws_eqPlatform.res a0 a1 y ∧ h1 = laws_eqPlatform.out a0 a1 y
theorem laws_eqPlatform.call {ar : List AV} {h : List (Option LB)} {a0 : Platform} {a1 : Platform} {y : Bool} (H : laws_eqPlatform a0 a1 = some y) (h0 : leLk ar [(.agg [(.v (.int .i64 a0.1)), (.v (.int .i64 a0.2.1)), (.v (.int .i64 a0.2.2.1)), (.v (.int .i64 a0.2.2.2.1)), (.bl a0.2.2.2.2.1), (.v (.int .i64 a0.2.2.2.2.2.1))]), (.agg [(.v (.int .i64 a1.1)), (.v (.int .i64 a1.2.1)), (.v (.int .i64 a1.2.2.1)), (.v (.int .i64 a1.2.2.2.1)), (.bl a1.2.2.2.2.1), (.v (.int .i64 a1.2.2.2.2.2.1))])] (leHk h [])) : laws_eqPlatform.S ar h (laws_eqPlatform.res a0 a1 y) (laws_eqPlatform.out a0 a1 y) := ⟨a0, a1, y, H, (args_ok h0).1, (args_ok h0).2, rfl, rfl⟩
set_option maxHeartbeats 100000000 in
set_option maxRecDepth 100000 in
theorem laws_eqPlatform.spec (a0 : Platform) (a1 : Platform) (y : Bool) (H : laws_eqPlatform a0 a1 = some y) : Spec Tryd.prog 30 [(.agg [(.v (.int .i64 a0.1)), (.v (.int .i64 a0.2.1)), (.v (.int .i64 a0.2.2.1)), (.v (.int .i64 a0.2.2.2.1)), (.bl a0.2.2.2.2.1), (.v (.int .i64 a0.2.2.2.2.2.1))]), (.agg [(.v (.int .i64 a1.1)), (.v (.int .i64 a1.2.1)), (.v (.int .i64 a1.2.2.1)), (.v (.int .i64 a1.2.2.2.1)), (.bl a1.2.2.2.2.1), (.v (.int .i64 a1.2.2.2.2.2.1))])] [] (laws_eqPlatform.res a0 a1 y) (laws_eqPlatform.out a0 a1 y) := by
  refine spec_intro (G28_ok.at tok []) (ct := [(4, some [2, 3, 14]), (10, some [2, 3, 29])]) Tryd.func30 rfl (by kernel_rfl) (by kernel_rfl) rfl ?_
  repeat' first
    | ((with_reducible refine eqg ?_); exact rfl)
    | ((with_reducible refine KOb.mk ?_); kernel_rfl)
    | ((with_reducible intro h); (repeat (first | replace H := grd_k H | replace H := out_step H (by assumption))); first | replace H := cond_t h H | replace H := cond_f h H | exact absurd h (by decide) | skip)
    | ((with_reducible refine Ob.mk ?_); first | (with_reducible rfl) | (first | ((repeat (first | (with_reducible exact grd_p H) | (replace H := grd_k H) | (replace H := out_step H (by assumption)))); done) | rfl | ((repeat (first | exact grd_p H | replace H := grd_k H | replace H := out_step H (by assumption))); done) | ((repeat (first | exact grd_p H | (have hp := grd_p H; exact hp) | replace H := grd_k H | replace H := out_step H (by assumption) | (replace H := bind_some H; obtain ⟨_, _, H⟩ := H))); done) | (repeat (first | exact grd_p H | replace H := grd_k H | replace H := out_step H (by assumption)))))
    | (with_reducible exact True.intro)
    | constructor
    | ((conv => whnf); first
        | ((with_reducible refine Ob.mk ?_); first | (with_reducible rfl) | (first | ((repeat (first | (with_reducible exact grd_p H) | (replace H := grd_k H) | (replace H := out_step H (by assumption)))); done) | rfl | ((repeat (first | exact grd_p H | replace H := grd_k H | replace H := out_step H (by assumption))); done) | ((repeat (first | exact grd_p H | (have hp := grd_p H; exact hp) | replace H := grd_k H | replace H := out_step H (by assumption) | (replace H := bind_some H; obtain ⟨_, _, H⟩ := H))); done) | (repeat (first | exact grd_p H | replace H := grd_k H | replace H := out_step H (by assumption)))))
        | ((with_reducible refine fin_mk ?_); (repeat (first | replace H := grd_k H | replace H := out_step H (by assumption))); have H := Option.some.inj H; subst H))
def G29 : Env := G28.add 30 [] laws_eqPlatform.S
theorem G29_ok : EnvOk Tryd.prog G29 := G28_ok.add ent_30 fun ar h r h1 ⟨a0, a1, y, hy, e1, e2, e3, e4⟩ => by
  subst e3 e4; exact (laws_eqPlatform.spec a0 a1 y hy).le e1 e2
attribute [local irreducible] laws_eqPlatform

noncomputable def laws_FnExactStepPlatform (a0 : Platform) (a1 : BoardEvent) : Option (Bool) :=
  ((laws_szBoardEvent (a1.1, a1.2.1, ()) (1048576 : Int)).bind fun y1 => (cond (decide (y1 < (0 : Int))) ((some true)) (((laws_toPlatform (a0.1, a0.2.1, a0.2.2.1, a0.2.2.2.1, a0.2.2.2.2.1, a0.2.2.2.2.2.1, ())).bind fun y2 => ((laws_toBoardEvent (a1.1, a1.2.1, ())).bind fun y3 => ((spec_StepPlatform (y2.1, y2.2.1, y2.2.2.1, y2.2.2.2.1, y2.2.2.2.2.1, y2.2.2.2.2.2.1, ()) (y3.1, y3.2.1, ())).bind fun y4 => (some ((Tg.mk : Tg 1), y4.2, y4.1.1, y4.1.2.1, y4.1.2.2.1, y4.1.2.2.2.1, y4.1.2.2.2.2.1, y4.1.2.2.2.2.2.1))))).bind fun z5 => (((laws_toPlatform (a0.1, a0.2.1, a0.2.2.1, a0.2.2.2.1, a0.2.2.2.2.1, a0.2.2.2.2.2.1, ())).bind fun y6 => ((laws_toBoardEvent (a1.1, a1.2.1, ())).bind fun y7 => ((impl_StepPlatform (y6.1, y6.2.1, y6.2.2.1, y6.2.2.2.1, y6.2.2.2.2.1, y6.2.2.2.2.2.1, ()) (y7.1, y7.2.1, ())).bind fun y8 => (some ((Tg.mk : Tg 2), z5.2.1, y8.2, z5.2.2.1, z5.2.2.2.1, z5.2.2.2.2.1, z5.2.2.2.2.2.1, z5.2.2.2.2.2.2.1, z5.2.2.2.2.2.2.2, y8.1.1, y8.1.2.1, y8.1.2.2.1, y8.1.2.2.2.1, y8.1.2.2.2.2.1, y8.1.2.2.2.2.2.1))))).bind fun z9 => ((laws_eqPlatform (z9.2.2.2.2.2.2.2.2.2.1, z9.2.2.2.2.2.2.2.2.2.2.1, z9.2.2.2.2.2.2.2.2.2.2.2.1, z9.2.2.2.2.2.2.2.2.2.2.2.2.1, z9.2.2.2.2.2.2.2.2.2.2.2.2.2.1, z9.2.2.2.2.2.2.2.2.2.2.2.2.2.2, ()) (z9.2.2.2.1, z9.2.2.2.2.1, z9.2.2.2.2.2.1, z9.2.2.2.2.2.2.1, z9.2.2.2.2.2.2.2.1, z9.2.2.2.2.2.2.2.2.1, ())).bind fun y10 => (cond (!y10) ((some false)) (cond (!(z9.2.2.1 == z9.2.1)) ((some false)) ((some true)))))))))
def laws_FnExactStepPlatform.res (_ : Platform) (_ : BoardEvent) (y : Bool) : AV := (.bl y)
def laws_FnExactStepPlatform.out (_ : Platform) (_ : BoardEvent) (_ : Bool) : List (Option LB) := []
def laws_FnExactStepPlatform.S (ar : List AV) (h : List (Option LB)) (r : AV) (h1 : List (Option LB)) : Prop := ∃ a0 a1 y, laws_FnExactStepPlatform a0 a1 = some y ∧ leL ar [(.agg [(.v (.int .i64 a0.1)), (.v (.int .i64 a0.2.1)), (.v (.int .i64 a0.2.2.1)), (.v (.int .i64 a0.2.2.2.1)), (.bl a0.2.2.2.2.1), (.v (.int .i64 a0.2.2.2.2.2.1))]), (.agg [(.v (.string a1.1)), (.v (.int .i64 a1.2.1))])] ∧ leH h [] ∧ r = laws_FnExactStepPlatform.res a0 a1 y ∧ h1 = laws_FnExactStepPlatform.out a0 a1 y
theorem laws_FnExactStepPlatform.call {ar : List AV} {h : List (Option LB)} {a0 : Platform} {a1 : BoardEvent} {y : Bool} (H : laws_FnExactStepPlatform a0 a1 = some y) (h0 : leLk ar [(.agg [(.v (.int .i64 a0.1)), (.v (.int .i64 a0.2.1)), (.v (.int .i64 a0.2.2.1)), (.v (.int .i64 a0.2.2.2.1)), (.bl a0.2.2.2.2.1), (.v (.int .i64 a0.2.2.2.2.2.1))]), (.agg [(.v (.string a1.1)), (.v (.int .i64 a1.2.1))])] (leHk h [])) : laws_FnExactStepPlatform.S ar h (laws_FnExactStepPlatform.res a0 a1 y) (laws_FnExactStepPlatform.out a0 a1 y) := ⟨a0, a1, y, H, (args_ok h0).1, (args_ok h0).2, rfl, rfl⟩
set_option maxHeartbeats 100000000 in
set_option maxRecDepth 100000 in
theorem laws_FnExactStepPlatform.spec (a0 : Platform) (a1 : BoardEvent) (y : Bool) (H : laws_FnExactStepPlatform a0 a1 = some y) : Spec Tryd.prog 6 [(.agg [(.v (.int .i64 a0.1)), (.v (.int .i64 a0.2.1)), (.v (.int .i64 a0.2.2.1)), (.v (.int .i64 a0.2.2.2.1)), (.bl a0.2.2.2.2.1), (.v (.int .i64 a0.2.2.2.2.2.1))]), (.agg [(.v (.string a1.1)), (.v (.int .i64 a1.2.1))])] [] (laws_FnExactStepPlatform.res a0 a1 y) (laws_FnExactStepPlatform.out a0 a1 y) := by
  refine spec_intro (G29_ok.at tok []) (ct := [(6, none), (7, none)]) Tryd.func6 rfl (by kernel_rfl) (by kernel_rfl) rfl ?_
  repeat' first
    | ((with_reducible refine eqg ?_); exact rfl)
    | ((with_reducible refine KOb.mk ?_); kernel_rfl)
    | ((with_reducible intro h); (repeat (first | replace H := grd_k H | replace H := out_step H (by assumption))); first | replace H := cond_t h H | replace H := cond_f h H | exact absurd h (by decide) | skip)
    | ((with_reducible refine Ob.mk ?_); first | (with_reducible rfl) | (first | ((repeat (first | (with_reducible exact grd_p H) | (replace H := grd_k H) | (replace H := out_step H (by assumption)))); done) | rfl | ((repeat (first | exact grd_p H | replace H := grd_k H | replace H := out_step H (by assumption))); done) | ((repeat (first | exact grd_p H | (have hp := grd_p H; exact hp) | replace H := grd_k H | replace H := out_step H (by assumption) | (replace H := bind_some H; obtain ⟨_, _, H⟩ := H))); done) | (repeat (first | exact grd_p H | replace H := grd_k H | replace H := out_step H (by assumption)))))
    | (with_reducible exact True.intro)
    | constructor
    | ((conv => whnf); first
        | ((with_reducible refine Ob.mk ?_); first | (with_reducible rfl) | (first | ((repeat (first | (with_reducible exact grd_p H) | (replace H := grd_k H) | (replace H := out_step H (by assumption)))); done) | rfl | ((repeat (first | exact grd_p H | replace H := grd_k H | replace H := out_step H (by assumption))); done) | ((repeat (first | exact grd_p H | (have hp := grd_p H; exact hp) | replace H := grd_k H | replace H := out_step H (by assumption) | (replace H := bind_some H; obtain ⟨_, _, H⟩ := H))); done) | (repeat (first | exact grd_p H | replace H := grd_k H | replace H := out_step H (by assumption)))))
        | ((with_reducible refine CallW.mk ?_); (repeat (first | replace H := grd_k H | replace H := out_step H (by assumption))); replace H := bind_some H; obtain ⟨y, hy, H⟩ := H; first | ((with_reducible have hz : laws_szBoardEvent _ _ = some y := hy); clear hz; refine Exists.intro _ (Exists.intro _ ⟨laws_szBoardEvent.call hy ?_, rfl, rfl, ?_⟩)) | ((with_reducible have hz : laws_toPlatform _ = some y := hy); clear hz; refine Exists.intro _ (Exists.intro _ ⟨laws_toPlatform.call hy ?_, rfl, rfl, ?_⟩)) | ((with_reducible have hz : laws_toBoardEvent _ = some y := hy); clear hz; refine Exists.intro _ (Exists.intro _ ⟨laws_toBoardEvent.call hy ?_, rfl, rfl, ?_⟩)) | ((with_reducible have hz : spec_StepPlatform _ _ = some y := hy); clear hz; refine Exists.intro _ (Exists.intro _ ⟨spec_StepPlatform.call hy ?_, rfl, rfl, ?_⟩)) | ((with_reducible have hz : impl_StepPlatform _ _ = some y := hy); clear hz; refine Exists.intro _ (Exists.intro _ ⟨impl_StepPlatform.call hy ?_, rfl, rfl, ?_⟩)) | ((with_reducible have hz : laws_eqPlatform _ _ = some y := hy); clear hz; refine Exists.intro _ (Exists.intro _ ⟨laws_eqPlatform.call hy ?_, rfl, rfl, ?_⟩)))
        | ((with_reducible refine cutAt (id := 6) ?_); (repeat (first | replace H := grd_k H | replace H := out_step H (by assumption))); first | (replace H := bind_some H; obtain ⟨z, hz, H⟩ := H; have hT : Tg 1 × Bool × Int × Int × Int × Int × Bool × Int := z; clear hT; refine CutC.mk (id := 6) ⟨sl [(2, (.loc 0 0 0)), (3, (.loc 1 0 0)), (6, (.loc 2 0 0)), (7, (.bl z.2.1))], [some (.box 38 [(.v (.int .i64 a0.1)), (.v (.int .i64 a0.2.1)), (.v (.int .i64 a0.2.2.1)), (.v (.int .i64 a0.2.2.2.1)), (.bl a0.2.2.2.2.1), (.v (.int .i64 a0.2.2.2.2.2.1))]), some (.box 48 [(.v (.string a1.1)), (.v (.int .i64 a1.2.1))]), some (.box 42 [(.v (.int .i64 z.2.2.1)), (.v (.int .i64 z.2.2.2.1)), (.v (.int .i64 z.2.2.2.2.1)), (.v (.int .i64 z.2.2.2.2.2.1)), (.bl z.2.2.2.2.2.2.1), (.v (.int .i64 z.2.2.2.2.2.2.2))])]⟩ ?_ ?_; (replace H := hz)))
        | ((with_reducible refine cutAt (id := 7) ?_); (repeat (first | replace H := grd_k H | replace H := out_step H (by assumption))); first | (replace H := bind_some H; obtain ⟨z, hz, H⟩ := H; have hT : Tg 2 × Bool × Bool × Int × Int × Int × Int × Bool × Int × Int × Int × Int × Int × Bool × Int := z; clear hT; refine CutC.mk (id := 7) ⟨sl [(6, (.loc 0 0 0)), (7, (.bl z.2.1)), (8, (.loc 1 0 0)), (9, (.bl z.2.2.1))], [some (.box 42 [(.v (.int .i64 z.2.2.2.1)), (.v (.int .i64 z.2.2.2.2.1)), (.v (.int .i64 z.2.2.2.2.2.1)), (.v (.int .i64 z.2.2.2.2.2.2.1)), (.bl z.2.2.2.2.2.2.2.1), (.v (.int .i64 z.2.2.2.2.2.2.2.2.1))]), some (.box 42 [(.v (.int .i64 z.2.2.2.2.2.2.2.2.2.1)), (.v (.int .i64 z.2.2.2.2.2.2.2.2.2.2.1)), (.v (.int .i64 z.2.2.2.2.2.2.2.2.2.2.2.1)), (.v (.int .i64 z.2.2.2.2.2.2.2.2.2.2.2.2.1)), (.bl z.2.2.2.2.2.2.2.2.2.2.2.2.2.1), (.v (.int .i64 z.2.2.2.2.2.2.2.2.2.2.2.2.2.2))])]⟩ ?_ ?_; (replace H := hz)))
        | ((repeat (first | replace H := grd_k H | replace H := out_step H (by assumption))); have H := Option.some.inj H; subst H; with_reducible refine sub_auto ?_)
        | ((with_reducible refine fin_mk ?_); (repeat (first | replace H := grd_k H | replace H := out_step H (by assumption))); have H := Option.some.inj H; subst H))
def G30 : Env := G29.add 6 [] laws_FnExactStepPlatform.S
theorem G30_ok : EnvOk Tryd.prog G30 := G29_ok.add ent_6 fun ar h r h1 ⟨a0, a1, y, hy, e1, e2, e3, e4⟩ => by
  subst e3 e4; exact (laws_FnExactStepPlatform.spec a0 a1 y hy).le e1 e2
attribute [local irreducible] laws_FnExactStepPlatform

noncomputable def laws_szBoardEventS_loop1 (a0 : (List BoardEvent)) (v5 : Int) (v6 : Int) : Option (Lp (Int × Int) ((Unit) ⊕ (Int))) :=
  (cond (decide (v6 < (a0.length : Int))) (grd (0 ≤ v6 ∧ v6 < (a0.length : Int)) ((laws_szBoardEvent ((a0.getD v6.toNat d_BoardEvent).1, (a0.getD v6.toNat d_BoardEvent).2.1, ()) v5).bind fun y7 => (cond (decide (y7 < (0 : Int))) ((some (.out (Sum.inl ())))) (some (.go (y7, (w64 (v6 + (1 : Int))))))))) ((some (.out (Sum.inr v5)))))
noncomputable def laws_szBoardEventS (a0 : (List BoardEvent)) (a1 : Int) : Option (Int) :=
  (cond (decide ((w64 (a1 - (a0.length : Int))) < (0 : Int))) ((some ((-1) : Int))) ((iter (fun s => laws_szBoardEventS_loop1 a0 s.1 s.2) ((w64 (a1 - (a0.length : Int))), (0 : Int))).bind (Sum.elim (fun _ => (some ((-1) : Int))) (fun r10 => (some r10)))))
def laws_szBoardEventS.res (_ : (List BoardEvent)) (_ : Int) (y : Int) : AV := (.v (.int .i64 y))
def laws_szBoardEventS.out (_ : (List BoardEvent)) (_ : Int) (_ : Int) : List (Option LB) := []
def laws_szBoardEventS.S (ar : List AV) (h : List (Option LB)) (r : AV) (h1 : List (Option LB)) : Prop := ∃ a0 a1 y, laws_szBoardEventS a0 a1 = some y ∧ leL ar [(.tree ty_BoardEvent a0), (.v (.int .i64 a1))] ∧ leH h [] ∧ r = laws_szBoardEventS.res a0 a1 y ∧ h1 = laws_szBoardEventS.out a0 a1 y
theorem laws_szBoardEventS.call {ar : List AV} {h : List (Option LB)} {a0 : (List BoardEvent)} {a1 : Int} {y : Int} (H : laws_szBoardEventS a0 a1 = some y) (h0 : leLk ar [(.tree ty_BoardEvent a0), (.v (.int .i64 a1))] (leHk h [])) : laws_szBoardEventS.S ar h (laws_szBoardEventS.res a0 a1 y) (laws_szBoardEventS.out a0 a1 y) := ⟨a0, a1, y, H, (args_ok h0).1, (args_ok h0).2, rfl, rfl⟩
set_option maxHeartbeats 100000000 in
set_option maxRecDepth 100000 in
theorem laws_szBoardEventS.spec (a0 : (List BoardEvent)) (a1 : Int) (y : Int) (H : laws_szBoardEventS a0 a1 = some y) : Spec Tryd.prog 31 [(.tree ty_BoardEvent a0), (.v (.int .i64 a1))] [] (laws_szBoardEventS.res a0 a1 y) (laws_szBoardEventS.out a0 a1 y) := by
  refine spec_intro (G30_ok.at tok []) (ct := [(6, some [0, 1, 5])]) Tryd.func31 rfl (by kernel_rfl) (by kernel_rfl) rfl ?_
  repeat' first
    | ((with_reducible refine eqg ?_); exact rfl)
    | ((with_reducible refine KOb.mk ?_); kernel_rfl)
    | ((with_reducible intro h); (repeat (first | replace H := grd_k H | replace H := out_step H (by assumption))); first | replace H := cond_t h H | replace H := cond_f h H | exact absurd h (by decide) | skip)
    | ((with_reducible refine Ob.mk ?_); first | (with_reducible rfl) | (first | ((repeat (first | (with_reducible exact grd_p H) | (replace H := grd_k H) | (replace H := out_step H (by assumption)))); done) | rfl | ((repeat (first | exact grd_p H | replace H := grd_k H | replace H := out_step H (by assumption))); done) | ((repeat (first | exact grd_p H | (have hp := grd_p H; exact hp) | replace H := grd_k H | replace H := out_step H (by assumption) | (replace H := bind_some H; obtain ⟨_, _, H⟩ := H))); done) | (repeat (first | exact grd_p H | replace H := grd_k H | replace H := out_step H (by assumption)))))
    | (with_reducible exact True.intro)
    | constructor
    | ((conv => whnf); first
        | ((with_reducible refine Ob.mk ?_); first | (with_reducible rfl) | (first | ((repeat (first | (with_reducible exact grd_p H) | (replace H := grd_k H) | (replace H := out_step H (by assumption)))); done) | rfl | ((repeat (first | exact grd_p H | replace H := grd_k H | replace H := out_step H (by assumption))); done) | ((repeat (first | exact grd_p H | (have hp := grd_p H; exact hp) | replace H := grd_k H | replace H := out_step H (by assumption) | (replace H := bind_some H; obtain ⟨_, _, H⟩ := H))); done) | (repeat (first | exact grd_p H | replace H := grd_k H | replace H := out_step H (by assumption)))))
        | ((with_reducible refine CallW.mk ?_); (repeat (first | replace H := grd_k H | replace H := out_step H (by assumption))); replace H := bind_some H; obtain ⟨y, hy, H⟩ := H; first | ((with_reducible have hz : laws_szBoardEvent _ _ = some y := hy); clear hz; refine Exists.intro _ (Exists.intro _ ⟨laws_szBoardEvent.call hy ?_, rfl, rfl, ?_⟩)))
        | ((repeat (first | replace H := grd_k H | replace H := out_step H (by assumption))); refine loop_iter (G30_ok.at tok []) (ct := [(6, some [0, 1, 5])]) (F := (fun s1 : Int × Int => ⟨sl [(0, (.tree ty_BoardEvent a0)), (1, (.v (.int .i64 s1.1))), (5, (.v (.int .i64 s1.2)))], []⟩)) (step := (fun s : Int × Int => laws_szBoardEventS_loop1 _ s.1 s.2)) _ H (by kernel_rfl) (sub_auto ?_) ?_; rotate_left; (intro s1 r v hr H); rotate_right)
        | ((repeat (first | replace H := grd_k H | replace H := out_step H (by assumption))); refine again_step H (by assumption) (sub_auto ?_))
        | ((with_reducible refine fin_mk ?_); (repeat (first | replace H := grd_k H | replace H := out_step H (by assumption))); have H := Option.some.inj H; subst H))
def G31 : Env := G30.add 31 [] laws_szBoardEventS.S
theorem G31_ok : EnvOk Tryd.prog G31 := G30_ok.add ent_31 fun ar h r h1 ⟨a0, a1, y, hy, e1, e2, e3, e4⟩ => by
  subst e3 e4; exact (laws_szBoardEventS.spec a0 a1 y hy).le e1 e2
attribute [local irreducible] laws_szBoardEventS

noncomputable def laws_toBoardEventS_loop1 (a0 : (List BoardEvent)) (v5 : Int) (v6 : (List BoardEvent)) : Option (Lp (Int × (List BoardEvent)) (((List BoardEvent)))) :=
  (cond (decide (v5 < (a0.length : Int))) (grd (0 ≤ v5 ∧ v5 < (a0.length : Int)) ((laws_toBoardEvent ((a0.getD v5.toNat d_BoardEvent).1, (a0.getD v5.toNat d_BoardEvent).2.1, ())).bind fun y7 => (grd (0 ≤ v5 ∧ v5 < (v6.length : Int)) (some (.go ((w64 (v5 + (1 : Int))), (v6.set v5.toNat (y7.1, y7.2.1, ())))))))) ((some (.out v6))))
noncomputable def laws_toBoardEventS (a0 : (List BoardEvent)) : Option ((List BoardEvent)) :=
  (grd (0 ≤ (a0.length : Int) ∧ (a0.length : Int) ≤ (a0.length : Int) ∧ (24 : Int) * (a0.length : Int) ≤ 140737488355328 ∧ (a0.length : Int) ≤ 140737488355328) ((iter (fun s => laws_toBoardEventS_loop1 a0 s.1 s.2) ((0 : Int), (List.replicate (a0.length : Int).toNat ((ByteArray.mk #[]), (0 : Int), ())))).bind (fun r8 => (some r8))))
def laws_toBoardEventS.res (_ : (List BoardEvent)) (_ : (List BoardEvent)) : AV := (.own 0)
def laws_toBoardEventS.out (_ : (List BoardEvent)) (y : (List BoardEvent)) : List (Option LB) := [some (.arr 52 ty_BoardEvent y)]
def laws_toBoardEventS.S (ar : List AV) (h : List (Option LB)) (r : AV) (h1 : List (Option LB)) : Prop := ∃ a0 y, laws_toBoardEventS a0 = some y ∧ leL ar [(.tree ty_BoardEvent a0)] ∧ leH h [] ∧ r = laws_toBoardEventS.res a0 y ∧ h1 = laws_toBoardEventS.out a0 y
theorem laws_toBoardEventS.call {ar : List AV} {h : List (Option LB)} {a0 : (List BoardEvent)} {y : (List BoardEvent)} (H : laws_toBoardEventS a0 = some y) (h0 : leLk ar [(.tree ty_BoardEvent a0)] (leHk h [])) : laws_toBoardEventS.S ar h (laws_toBoardEventS.res a0 y) (laws_toBoardEventS.out a0 y) := ⟨a0, y, H, (args_ok h0).1, (args_ok h0).2, rfl, rfl⟩
set_option maxHeartbeats 100000000 in
set_option maxRecDepth 100000 in
theorem laws_toBoardEventS.spec (a0 : (List BoardEvent)) (y : (List BoardEvent)) (H : laws_toBoardEventS a0 = some y) : Spec Tryd.prog 33 [(.tree ty_BoardEvent a0)] [] (laws_toBoardEventS.res a0 y) (laws_toBoardEventS.out a0 y) := by
  refine spec_intro (G31_ok.at tok []) (ct := []) Tryd.func33 rfl (by kernel_rfl) (by kernel_rfl) rfl ?_
  repeat' first
    | ((with_reducible refine eqg ?_); exact rfl)
    | ((with_reducible refine KOb.mk ?_); kernel_rfl)
    | ((with_reducible intro h); (repeat (first | replace H := grd_k H | replace H := out_step H (by assumption))); first | replace H := cond_t h H | replace H := cond_f h H | exact absurd h (by decide) | skip)
    | ((with_reducible refine Ob.mk ?_); first | (with_reducible rfl) | (first | ((repeat (first | (with_reducible exact grd_p H) | (replace H := grd_k H) | (replace H := out_step H (by assumption)))); done) | rfl | ((repeat (first | exact grd_p H | replace H := grd_k H | replace H := out_step H (by assumption))); done) | ((repeat (first | exact grd_p H | (have hp := grd_p H; exact hp) | replace H := grd_k H | replace H := out_step H (by assumption) | (replace H := bind_some H; obtain ⟨_, _, H⟩ := H))); done) | (repeat (first | exact grd_p H | replace H := grd_k H | replace H := out_step H (by assumption)))))
    | (with_reducible exact True.intro)
    | constructor
    | ((conv => whnf); first
        | ((with_reducible refine Ob.mk ?_); first | (with_reducible rfl) | (first | ((repeat (first | (with_reducible exact grd_p H) | (replace H := grd_k H) | (replace H := out_step H (by assumption)))); done) | rfl | ((repeat (first | exact grd_p H | replace H := grd_k H | replace H := out_step H (by assumption))); done) | ((repeat (first | exact grd_p H | (have hp := grd_p H; exact hp) | replace H := grd_k H | replace H := out_step H (by assumption) | (replace H := bind_some H; obtain ⟨_, _, H⟩ := H))); done) | (repeat (first | exact grd_p H | replace H := grd_k H | replace H := out_step H (by assumption)))))
        | ((with_reducible refine CallW.mk ?_); (repeat (first | replace H := grd_k H | replace H := out_step H (by assumption))); replace H := bind_some H; obtain ⟨y, hy, H⟩ := H; first | ((with_reducible have hz : laws_toBoardEvent _ = some y := hy); clear hz; refine Exists.intro _ (Exists.intro _ ⟨laws_toBoardEvent.call hy ?_, rfl, rfl, ?_⟩)))
        | ((repeat (first | replace H := grd_k H | replace H := out_step H (by assumption))); refine loop_iter (G31_ok.at tok []) (ct := []) (F := (fun s1 : Int × (List BoardEvent) => ⟨sl [(0, (.tree ty_BoardEvent a0)), (3, (.own 0)), (4, (.v (.int .i64 s1.1)))], [some (.arr 52 ty_BoardEvent s1.2)]⟩)) (step := (fun s : Int × (List BoardEvent) => laws_toBoardEventS_loop1 _ s.1 s.2)) _ H (by kernel_rfl) (sub_auto ?_) ?_; rotate_left; (intro s1 r v hr H); rotate_right)
        | ((repeat (first | replace H := grd_k H | replace H := out_step H (by assumption))); refine again_step H (by assumption) (sub_auto ?_))
        | ((with_reducible refine fin_mk ?_); (repeat (first | replace H := grd_k H | replace H := out_step H (by assumption))); have H := Option.some.inj H; subst H))
def G32 : Env := G31.add 33 [] laws_toBoardEventS.S
theorem G32_ok : EnvOk Tryd.prog G32 := G31_ok.add ent_33 fun ar h r h1 ⟨a0, y, hy, e1, e2, e3, e4⟩ => by
  subst e3 e4; exact (laws_toBoardEventS.spec a0 y hy).le e1 e2
attribute [local irreducible] laws_toBoardEventS

end Go.Proofs.YteckiilljhdkpaaDoor
