/-
  Contracts, printed by a program.
-/
import Derived.Test.YteckiilljhdkpaaDoorC333
namespace Go.Proofs.YteckiilljhdkpaaDoor
open Go.RowKit
attribute [local irreducible] Ob loopwp Sub Spec Fin Again CallW CutC KOb iter joinx outm

attribute [local irreducible] laws_rBig spec_l1Cur_next spec_l1Cur_pick spec_l1Cur_among spec_l1Cur_one spec_l1Cur_platform spec_l1Cur_of spec_l14Most spec_l1Cur_boardEvent spec_l1Cur_boardEvents spec_l1In spec_l14Good spec_l1Least spec_l14Entering spec_l14Event spec_l14Can spec_l14Step spec_QuickestGo

noncomputable def spec_DrawRunPlatform (a0 : (List Int)) : Option (Platform × (List BoardEvent)) :=
  ((spec_l1Cur_platform (a0, (0 : Int), (0 : Int), ())).bind fun y1 => ((spec_l1Cur_boardEvents (y1.2.1, y1.2.2.1, y1.2.2.2.1, ())).bind fun y2 => ((spec_l1Cur_one (y2.2.1, y2.2.2.1, y2.2.2.2.1, ()) (2 : Int)).bind fun y3 => (cond y3.1 ((spec_QuickestGo (y1.1.1, y1.1.2.1, y1.1.2.2.1, y1.1.2.2.2.1, y1.1.2.2.2.2.1, y1.1.2.2.2.2.2.1, ())).bind fun y4 => (cond y4.2 (grd ((y4.1.length + y2.1.length) * 24 ≤ 140737488355328 ∧ y4.1.length + y2.1.length ≤ 140737488355328) (cond (decide ((20 : Int) < ((y4.1 ++ y2.1).length : Int))) (grd (0 ≤ (0 : Int) ∧ (0 : Int) ≤ (20 : Int) ∧ (20 : Int) ≤ ((y4.1 ++ y2.1).length : Int)) ((some ((y1.1.1, y1.1.2.1, y1.1.2.2.1, y1.1.2.2.2.1, y1.1.2.2.2.2.1, y1.1.2.2.2.2.2.1, ()), ((y4.1 ++ y2.1).take (20 : Int).toNat))))) ((some ((y1.1.1, y1.1.2.1, y1.1.2.2.1, y1.1.2.2.2.1, y1.1.2.2.2.2.1, y1.1.2.2.2.2.2.1, ()), (y4.1 ++ y2.1)))))) ((some ((y1.1.1, y1.1.2.1, y1.1.2.2.1, y1.1.2.2.2.1, y1.1.2.2.2.2.1, y1.1.2.2.2.2.2.1, ()), y2.1))))) ((some ((y1.1.1, y1.1.2.1, y1.1.2.2.1, y1.1.2.2.2.1, y1.1.2.2.2.2.1, y1.1.2.2.2.2.2.1, ()), y2.1)))))))
def spec_DrawRunPlatform.res (_ : (List Int)) (y : Platform × (List BoardEvent)) : AV := (.tup [(.agg [(.v (.int .i64 y.1.1)), (.v (.int .i64 y.1.2.1)), (.v (.int .i64 y.1.2.2.1)), (.v (.int .i64 y.1.2.2.2.1)), (.bl y.1.2.2.2.2.1), (.v (.int .i64 y.1.2.2.2.2.2.1))]), (.own 0)])
def spec_DrawRunPlatform.out (_ : (List Int)) (y : Platform × (List BoardEvent)) : List (Option LB) := [some (.arr 52 ty_BoardEvent y.2)]
def spec_DrawRunPlatform.S (ar : List AV) (h : List (Option LB)) (r : AV) (h1 : List (Option LB)) : Prop := ∃ a0 y, spec_DrawRunPlatform a0 = some y ∧ leL ar [(.tree (.int .u8) a0)] ∧ leH h [] ∧ r = spec_DrawRunPlatform.res a0 y ∧ h1 = spec_DrawRunPlatform.out a0 y
theorem spec_DrawRunPlatform.call {ar : List AV} {h : List (Option LB)} {a0 : (List Int)} {y : Platform × (List BoardEvent)} (H : spec_DrawRunPlatform a0 = some y) (h0 : leLk ar [(.tree (.int .u8) a0)] (leHk h [])) : spec_DrawRunPlatform.S ar h (spec_DrawRunPlatform.res a0 y) (spec_DrawRunPlatform.out a0 y) := ⟨a0, y, H, (args_ok h0).1, (args_ok h0).2, rfl, rfl⟩
set_option maxHeartbeats 100000000 in
set_option maxRecDepth 100000 in
theorem spec_DrawRunPlatform.spec (a0 : (List Int)) (y : Platform × (List BoardEvent)) (H : spec_DrawRunPlatform a0 = some y) : Spec Tryd.prog 37 [(.tree (.int .u8) a0)] [] (spec_DrawRunPlatform.res a0 y) (spec_DrawRunPlatform.out a0 y) := by
  refine spec_intro (G18_ok.at tok [31]) (ct := [(5, some [2, 5, 6, 17]), (9, some [2, 5, 6, 29])]) Tryd.func37 rfl (by kernel_rfl) (by kernel_rfl) rfl ?_
  repeat' first
    | ((with_reducible refine eqg ?_); exact rfl)
    | ((with_reducible refine KOb.mk ?_); kernel_rfl)
    | ((with_reducible intro h); (repeat (first | replace H := grd_k H | replace H := out_step H (by assumption))); first | replace H := cond_t h H | replace H := cond_f h H | exact absurd h (by decide) | skip)
    | ((with_reducible refine Ob.mk ?_); first | (with_reducible rfl) | (first | ((repeat (first | (with_reducible exact grd_p H) | (replace H := grd_k H) | (replace H := out_step H (by assumption)))); done) | rfl | ((repeat (first | exact grd_p H | replace H := grd_k H | replace H := out_step H (by assumption))); done) | ((repeat (first | exact grd_p H | (have hp := grd_p H; exact hp) | replace H := grd_k H | replace H := out_step H (by assumption) | (replace H := bind_some H; obtain ⟨_, _, H⟩ := H))); done) | (repeat (first | exact grd_p H | replace H := grd_k H | replace H := out_step H (by assumption)))))
    | (with_reducible exact True.intro)
    | constructor
    | ((conv => whnf); first
        | ((with_reducible refine Ob.mk ?_); first | (with_reducible rfl) | (first | ((repeat (first | (with_reducible exact grd_p H) | (replace H := grd_k H) | (replace H := out_step H (by assumption)))); done) | rfl | ((repeat (first | exact grd_p H | replace H := grd_k H | replace H := out_step H (by assumption))); done) | ((repeat (first | exact grd_p H | (have hp := grd_p H; exact hp) | replace H := grd_k H | replace H := out_step H (by assumption) | (replace H := bind_some H; obtain ⟨_, _, H⟩ := H))); done) | (repeat (first | exact grd_p H | replace H := grd_k H | replace H := out_step H (by assumption)))))
        | ((with_reducible refine CallW.mk ?_); (repeat (first | replace H := grd_k H | replace H := out_step H (by assumption))); replace H := bind_some H; obtain ⟨y, hy, H⟩ := H; first | ((with_reducible have hz : spec_l1Cur_platform _ = some y := hy); clear hz; refine Exists.intro _ (Exists.intro _ ⟨spec_l1Cur_platform.call hy ?_, rfl, rfl, ?_⟩)) | ((with_reducible have hz : spec_l1Cur_boardEvents _ = some y := hy); clear hz; refine Exists.intro _ (Exists.intro _ ⟨spec_l1Cur_boardEvents.call hy ?_, rfl, rfl, ?_⟩)) | ((with_reducible have hz : spec_l1Cur_one _ _ = some y := hy); clear hz; refine Exists.intro _ (Exists.intro _ ⟨spec_l1Cur_one.call hy ?_, rfl, rfl, ?_⟩)) | ((with_reducible have hz : spec_QuickestGo _ = some y := hy); clear hz; refine Exists.intro _ (Exists.intro _ ⟨spec_QuickestGo.call hy ?_, rfl, rfl, ?_⟩)))
        | ((with_reducible refine fin_mk ?_); (repeat (first | replace H := grd_k H | replace H := out_step H (by assumption))); have H := Option.some.inj H; subst H))
  all_goals exact viewz _ _
def G19 : Env := G18.add 37 [] spec_DrawRunPlatform.S
theorem G19_ok : EnvOk Tryd.prog G19 := G18_ok.add ent_37 fun ar h r h1 ⟨a0, y, hy, e1, e2, e3, e4⟩ => by
  subst e3 e4; exact (spec_DrawRunPlatform.spec a0 y hy).le e1 e2
attribute [local irreducible] spec_DrawRunPlatform

noncomputable def impl_within (a0 : Int) (a1 : Int) (a2 : Int) : Option (Bool) :=
  (cond (decide (a1 ≤ a0)) ((some (decide (a0 ≤ a2)))) ((some false)))
def impl_within.res (_ : Int) (_ : Int) (_ : Int) (y : Bool) : AV := (.bl y)
def impl_within.out (_ : Int) (_ : Int) (_ : Int) (_ : Bool) : List (Option LB) := []
def impl_within.S (ar : List AV) (h : List (Option LB)) (r : AV) (h1 : List (Option LB)) : Prop := ∃ a0 a1 a2 y, impl_within a0 a1 a2 = some y ∧ leL ar [(.v (.int .i64 a0)), (.v (.int .i64 a1)), (.v (.int .i64 a2))] ∧ leH h [] ∧ r = impl_within.res a0 a1 a2 y ∧ h1 = impl_within.out a0 a1 a2 y
theorem impl_within.call {ar : List AV} {h : List (Option LB)} {a0 : Int} {a1 : Int} {a2 : Int} {y : Bool} (H : impl_within a0 a1 a2 = some y) (h0 : leLk ar [(.v (.int .i64 a0)), (.v (.int .i64 a1)), (.v (.int .i64 a2))] (leHk h [])) : impl_within.S ar h (impl_within.res a0 a1 a2 y) (impl_within.out a0 a1 a2 y) := ⟨a0, a1, a2, y, H, (args_ok h0).1, (args_ok h0).2, rfl, rfl⟩
set_option maxHeartbeats 100000000 in
set_option maxRecDepth 100000 in
theorem impl_within.spec (a0 : Int) (a1 : Int) (a2 : Int) (y : Bool) (H : impl_within a0 a1 a2 = some y) : Spec Tryd.prog 81 [(.v (.int .i64 a0)), (.v (.int .i64 a1)), (.v (.int .i64 a2))] [] (impl_within.res a0 a1 a2 y) (impl_within.out a0 a1 a2 y) := by
  refine spec_intro (G19_ok.at tok []) (ct := []) Tryd.func81 rfl (by kernel_rfl) (by kernel_rfl) rfl ?_
  repeat' first
    | ((with_reducible refine eqg ?_); exact rfl)
    | ((with_reducible refine KOb.mk ?_); kernel_rfl)
    | ((with_reducible intro h); (repeat (first | replace H := grd_k H | replace H := out_step H (by assumption))); first | replace H := cond_t h H | replace H := cond_f h H | exact absurd h (by decide) | skip)
    | ((with_reducible refine Ob.mk ?_); first | (with_reducible rfl) | (first | ((repeat (first | (with_reducible exact grd_p H) | (replace H := grd_k H) | (replace H := out_step H (by assumption)))); done) | rfl | ((repeat (first | exact grd_p H | replace H := grd_k H | replace H := out_step H (by assumption))); done) | ((repeat (first | exact grd_p H | (have hp := grd_p H; exact hp) | replace H := grd_k H | replace H := out_step H (by assumption) | (replace H := bind_some H; obtain ⟨_, _, H⟩ := H))); done) | (repeat (first | exact grd_p H | replace H := grd_k H | replace H := out_step H (by assumption)))))
    | (with_reducible exact True.intro)
    | constructor
    | ((conv => whnf); first
        | ((with_reducible refine Ob.mk ?_); first | (with_reducible rfl) | (first | ((repeat (first | (with_reducible exact grd_p H) | (replace H := grd_k H) | (replace H := out_step H (by assumption)))); done) | rfl | ((repeat (first | exact grd_p H | replace H := grd_k H | replace H := out_step H (by assumption))); done) | ((repeat (first | exact grd_p H | (have hp := grd_p H; exact hp) | replace H := grd_k H | replace H := out_step H (by assumption) | (replace H := bind_some H; obtain ⟨_, _, H⟩ := H))); done) | (repeat (first | exact grd_p H | replace H := grd_k H | replace H := out_step H (by assumption)))))
        | ((with_reducible refine fin_mk ?_); (repeat (first | replace H := grd_k H | replace H := out_step H (by assumption))); have H := Option.some.inj H; subst H))
def G20 : Env := G19.add 81 [] impl_within.S
theorem G20_ok : EnvOk Tryd.prog G20 := G19_ok.add ent_81 fun ar h r h1 ⟨a0, a1, a2, y, hy, e1, e2, e3, e4⟩ => by
  subst e3 e4; exact (impl_within.spec a0 a1 a2 y hy).le e1 e2
attribute [local irreducible] impl_within

noncomputable def impl_IsPlatform (a0 : Platform) : Option (Bool) :=
  ((impl_within a0.1 (0 : Int) (1 : Int)).bind fun y1 => (cond y1 ((impl_within a0.2.1 (0 : Int) (16 : Int)).bind fun y2 => (cond y2 ((impl_within a0.2.2.1 (0 : Int) a0.2.1).bind fun y3 => (cond y3 ((impl_within a0.2.2.2.1 (0 : Int) (500 : Int)).bind fun y4 => (cond y4 ((impl_within a0.2.2.2.2.2.1 (0 : Int) (9999 : Int)).bind fun y5 => (cond y5 (cond (decide ((0 : Int) < a0.2.1)) ((some true)) ((some (decide (a0.1 = (0 : Int)))))) ((some false)))) ((some false)))) ((some false)))) ((some false)))) ((some false))))
def impl_IsPlatform.res (_ : Platform) (y : Bool) : AV := (.bl y)
def impl_IsPlatform.out (_ : Platform) (_ : Bool) : List (Option LB) := []
def impl_IsPlatform.S (ar : List AV) (h : List (Option LB)) (r : AV) (h1 : List (Option LB)) : Prop := ∃ a0 y, impl_IsPlatform a0 = some y ∧ leL ar [(.agg [(.v (.int .i64 a0.1)), (.v (.int .i64 a0.2.1)), (.v (.int .i64 a0.2.2.1)), (.v (.int .i64 a0.2.2.2.1)), (.bl a0.2.2.2.2.1), (.v (.int .i64 a0.2.2.2.2.2.1))])] ∧ leH h [] ∧ r = impl_IsPlatform.res a0 y ∧ h1 = impl_IsPlatform.out a0 y
theorem impl_IsPlatform.call {ar : List AV} {h : List (Option LB)} {a0 : Platform} {y : Bool} (H : impl_IsPlatform a0 = some y) (h0 : leLk ar [(.agg [(.v (.int .i64 a0.1)), (.v (.int .i64 a0.2.1)), (.v (.int .i64 a0.2.2.1)), (.v (.int .i64 a0.2.2.2.1)), (.bl a0.2.2.2.2.1), (.v (.int .i64 a0.2.2.2.2.2.1))])] (leHk h [])) : impl_IsPlatform.S ar h (impl_IsPlatform.res a0 y) (impl_IsPlatform.out a0 y) := ⟨a0, y, H, (args_ok h0).1, (args_ok h0).2, rfl, rfl⟩
set_option maxHeartbeats 100000000 in
set_option maxRecDepth 100000 in
theorem impl_IsPlatform.spec (a0 : Platform) (y : Bool) (H : impl_IsPlatform a0 = some y) : Spec Tryd.prog 38 [(.agg [(.v (.int .i64 a0.1)), (.v (.int .i64 a0.2.1)), (.v (.int .i64 a0.2.2.1)), (.v (.int .i64 a0.2.2.2.1)), (.bl a0.2.2.2.2.1), (.v (.int .i64 a0.2.2.2.2.2.1))])] [] (impl_IsPlatform.res a0 y) (impl_IsPlatform.out a0 y) := by
  refine spec_intro (G20_ok.at tok []) (ct := []) Tryd.func38 rfl (by kernel_rfl) (by kernel_rfl) rfl ?_
  repeat' first
    | ((with_reducible refine eqg ?_); exact rfl)
    | ((with_reducible refine KOb.mk ?_); kernel_rfl)
    | ((with_reducible intro h); (repeat (first | replace H := grd_k H | replace H := out_step H (by assumption))); first | replace H := cond_t h H | replace H := cond_f h H | exact absurd h (by decide) | skip)
    | ((with_reducible refine Ob.mk ?_); first | (with_reducible rfl) | (first | ((repeat (first | (with_reducible exact grd_p H) | (replace H := grd_k H) | (replace H := out_step H (by assumption)))); done) | rfl | ((repeat (first | exact grd_p H | replace H := grd_k H | replace H := out_step H (by assumption))); done) | ((repeat (first | exact grd_p H | (have hp := grd_p H; exact hp) | replace H := grd_k H | replace H := out_step H (by assumption) | (replace H := bind_some H; obtain ⟨_, _, H⟩ := H))); done) | (repeat (first | exact grd_p H | replace H := grd_k H | replace H := out_step H (by assumption)))))
    | (with_reducible exact True.intro)
    | constructor
    | ((conv => whnf); first
        | ((with_reducible refine Ob.mk ?_); first | (with_reducible rfl) | (first | ((repeat (first | (with_reducible exact grd_p H) | (replace H := grd_k H) | (replace H := out_step H (by assumption)))); done) | rfl | ((repeat (first | exact grd_p H | replace H := grd_k H | replace H := out_step H (by assumption))); done) | ((repeat (first | exact grd_p H | (have hp := grd_p H; exact hp) | replace H := grd_k H | replace H := out_step H (by assumption) | (replace H := bind_some H; obtain ⟨_, _, H⟩ := H))); done) | (repeat (first | exact grd_p H | replace H := grd_k H | replace H := out_step H (by assumption)))))
        | ((with_reducible refine CallW.mk ?_); (repeat (first | replace H := grd_k H | replace H := out_step H (by assumption))); replace H := bind_some H; obtain ⟨y, hy, H⟩ := H; first | ((with_reducible have hz : impl_within _ _ _ = some y := hy); clear hz; refine Exists.intro _ (Exists.intro _ ⟨impl_within.call hy ?_, rfl, rfl, ?_⟩)))
        | ((with_reducible refine fin_mk ?_); (repeat (first | replace H := grd_k H | replace H := out_step H (by assumption))); have H := Option.some.inj H; subst H))
def G21 : Env := G20.add 38 [] impl_IsPlatform.S
theorem G21_ok : EnvOk Tryd.prog G21 := G20_ok.add ent_38 fun ar h r h1 ⟨a0, y, hy, e1, e2, e3, e4⟩ => by
  subst e3 e4; exact (impl_IsPlatform.spec a0 y hy).le e1 e2
attribute [local irreducible] impl_IsPlatform

noncomputable def impl_boardCounts (a0 : ByteArray) : Option (Int × Int) :=
  (cond (decide (a0 = (ByteArray.mk #[99, 111, 109, 101]))) ((some ((1 : Int), (16 : Int)))) (cond (decide (a0 = (ByteArray.mk #[101, 110, 116, 101, 114]))) ((some ((1 : Int), (16 : Int)))) (cond (decide (a0 = (ByteArray.mk #[108, 101, 97, 118, 101]))) ((some ((1 : Int), (16 : Int)))) (cond (decide (a0 = (ByteArray.mk #[97, 114, 114, 105, 118, 101]))) ((some ((1 : Int), (100 : Int)))) ((some ((0 : Int), (0 : Int))))))))
def impl_boardCounts.res (_ : ByteArray) (y : Int × Int) : AV := (.tup [(.v (.int .i64 y.1)), (.v (.int .i64 y.2))])
def impl_boardCounts.out (_ : ByteArray) (_ : Int × Int) : List (Option LB) := []
def impl_boardCounts.S (ar : List AV) (h : List (Option LB)) (r : AV) (h1 : List (Option LB)) : Prop := ∃ a0 y, impl_boardCounts a0 = some y ∧ leL ar [(.v (.string a0))] ∧ leH h [] ∧ r = impl_boardCounts.res a0 y ∧ h1 = impl_boardCounts.out a0 y
theorem impl_boardCounts.call {ar : List AV} {h : List (Option LB)} {a0 : ByteArray} {y : Int × Int} (H : impl_boardCounts a0 = some y) (h0 : leLk ar [(.v (.string a0))] (leHk h [])) : impl_boardCounts.S ar h (impl_boardCounts.res a0 y) (impl_boardCounts.out a0 y) := ⟨a0, y, H, (args_ok h0).1, (args_ok h0).2, rfl, rfl⟩
set_option maxHeartbeats 100000000 in
set_option maxRecDepth 100000 in
theorem impl_boardCounts.spec (a0 : ByteArray) (y : Int × Int) (H : impl_boardCounts a0 = some y) : Spec Tryd.prog 73 [(.v (.string a0))] [] (impl_boardCounts.res a0 y) (impl_boardCounts.out a0 y) := by
  refine spec_intro (G21_ok.at tok []) (ct := []) Tryd.func73 rfl (by kernel_rfl) (by kernel_rfl) rfl ?_
  repeat' first
    | ((with_reducible refine eqg ?_); exact rfl)
    | ((with_reducible refine KOb.mk ?_); kernel_rfl)
    | ((with_reducible intro h); (repeat (first | replace H := grd_k H | replace H := out_step H (by assumption))); first | replace H := cond_t h H | replace H := cond_f h H | exact absurd h (by decide) | skip)
    | ((with_reducible refine Ob.mk ?_); first | (with_reducible rfl) | (first | ((repeat (first | (with_reducible exact grd_p H) | (replace H := grd_k H) | (replace H := out_step H (by assumption)))); done) | rfl | ((repeat (first | exact grd_p H | replace H := grd_k H | replace H := out_step H (by assumption))); done) | ((repeat (first | exact grd_p H | (have hp := grd_p H; exact hp) | replace H := grd_k H | replace H := out_step H (by assumption) | (replace H := bind_some H; obtain ⟨_, _, H⟩ := H))); done) | (repeat (first | exact grd_p H | replace H := grd_k H | replace H := out_step H (by assumption)))))
    | (with_reducible exact True.intro)
    | constructor
    | ((conv => whnf); first
        | ((with_reducible refine Ob.mk ?_); first | (with_reducible rfl) | (first | ((repeat (first | (with_reducible exact grd_p H) | (replace H := grd_k H) | (replace H := out_step H (by assumption)))); done) | rfl | ((repeat (first | exact grd_p H | replace H := grd_k H | replace H := out_step H (by assumption))); done) | ((repeat (first | exact grd_p H | (have hp := grd_p H; exact hp) | replace H := grd_k H | replace H := out_step H (by assumption) | (replace H := bind_some H; obtain ⟨_, _, H⟩ := H))); done) | (repeat (first | exact grd_p H | replace H := grd_k H | replace H := out_step H (by assumption)))))
        | ((with_reducible refine fin_mk ?_); (repeat (first | replace H := grd_k H | replace H := out_step H (by assumption))); have H := Option.some.inj H; subst H))
def G22 : Env := G21.add 73 [] impl_boardCounts.S
theorem G22_ok : EnvOk Tryd.prog G22 := G21_ok.add ent_73 fun ar h r h1 ⟨a0, y, hy, e1, e2, e3, e4⟩ => by
  subst e3 e4; exact (impl_boardCounts.spec a0 y hy).le e1 e2
attribute [local irreducible] impl_boardCounts

noncomputable def slices_Index___string_string__loop1 (a0 : (List ByteArray)) (a1 : ByteArray) (v2 : Int) : Option (Lp (Int) ((Int) ⊕ (Unit))) :=
  (cond (decide (v2 < (a0.length : Int))) (grd (0 ≤ v2 ∧ v2 < (a0.length : Int)) (cond (decide (a1 = (a0.getD v2.toNat (ByteArray.mk #[])))) ((some (.out (Sum.inl v2)))) (some (.go (w64 (v2 + (1 : Int))))))) ((some (.out (Sum.inr ())))))
noncomputable def slices_Index___string_string_ (a0 : (List ByteArray)) (a1 : ByteArray) : Option (Int) :=
  ((iter (fun s => slices_Index___string_string__loop1 a0 a1 s) (0 : Int)).bind (Sum.elim (fun r4 => (some r4)) (fun _ => (some ((-1) : Int)))))
def slices_Index___string_string_.res (_ : (List ByteArray)) (_ : ByteArray) (y : Int) : AV := (.v (.int .i64 y))
def slices_Index___string_string_.out (_ : (List ByteArray)) (_ : ByteArray) (_ : Int) : List (Option LB) := []
def slices_Index___string_string_.S (ar : List AV) (h : List (Option LB)) (r : AV) (h1 : List (Option LB)) : Prop := ∃ a0 a1 y, slices_Index___string_string_ a0 a1 = some y ∧ leL ar [(.tree .str a0), (.v (.string a1))] ∧ leH h [] ∧ r = slices_Index___string_string_.res a0 a1 y ∧ h1 = slices_Index___string_string_.out a0 a1 y
theorem slices_Index___string_string_.call {ar : List AV} {h : List (Option LB)} {a0 : (List ByteArray)} {a1 : ByteArray} {y : Int} (H : slices_Index___string_string_ a0 a1 = some y) (h0 : leLk ar [(.tree .str a0), (.v (.string a1))] (leHk h [])) : slices_Index___string_string_.S ar h (slices_Index___string_string_.res a0 a1 y) (slices_Index___string_string_.out a0 a1 y) := ⟨a0, a1, y, H, (args_ok h0).1, (args_ok h0).2, rfl, rfl⟩
set_option maxHeartbeats 100000000 in
set_option maxRecDepth 100000 in
theorem slices_Index___string_string_.spec (a0 : (List ByteArray)) (a1 : ByteArray) (y : Int) (H : slices_Index___string_string_ a0 a1 = some y) : Spec Tryd.prog 100 [(.tree .str a0), (.v (.string a1))] [] (slices_Index___string_string_.res a0 a1 y) (slices_Index___string_string_.out a0 a1 y) := by
  refine spec_intro (G22_ok.at tok []) (ct := []) Tryd.func100 rfl (by kernel_rfl) (by kernel_rfl) rfl ?_
  repeat' first
    | ((with_reducible refine eqg ?_); exact rfl)
    | ((with_reducible refine KOb.mk ?_); kernel_rfl)
    | ((with_reducible intro h); (repeat (first | replace H := grd_k H | replace H := out_step H (by assumption))); first | replace H := cond_t h H | replace H := cond_f h H | exact absurd h (by decide) | skip)
    | ((with_reducible refine Ob.mk ?_); first | (with_reducible rfl) | (first | ((repeat (first | (with_reducible exact grd_p H) | (replace H := grd_k H) | (replace H := out_step H (by assumption)))); done) | rfl | ((repeat (first | exact grd_p H | replace H := grd_k H | replace H := out_step H (by assumption))); done) | ((repeat (first | exact grd_p H | (have hp := grd_p H; exact hp) | replace H := grd_k H | replace H := out_step H (by assumption) | (replace H := bind_some H; obtain ⟨_, _, H⟩ := H))); done) | (repeat (first | exact grd_p H | replace H := grd_k H | replace H := out_step H (by assumption)))))
    | (with_reducible exact True.intro)
    | constructor
    | ((conv => whnf); first
        | ((with_reducible refine Ob.mk ?_); first | (with_reducible rfl) | (first | ((repeat (first | (with_reducible exact grd_p H) | (replace H := grd_k H) | (replace H := out_step H (by assumption)))); done) | rfl | ((repeat (first | exact grd_p H | replace H := grd_k H | replace H := out_step H (by assumption))); done) | ((repeat (first | exact grd_p H | (have hp := grd_p H; exact hp) | replace H := grd_k H | replace H := out_step H (by assumption) | (replace H := bind_some H; obtain ⟨_, _, H⟩ := H))); done) | (repeat (first | exact grd_p H | replace H := grd_k H | replace H := out_step H (by assumption)))))
        | ((repeat (first | replace H := grd_k H | replace H := out_step H (by assumption))); refine loop_iter (G22_ok.at tok []) (ct := []) (F := (fun s1 : Int => ⟨sl [(0, (.tree .str a0)), (1, (.v (.string a1))), (7, (.v (.int .i64 (a0.length : Int)))), (8, (.v (.int .i64 s1)))], []⟩)) (step := (fun s : Int => slices_Index___string_string__loop1 _ _ s)) _ H (by kernel_rfl) (sub_auto ?_) ?_; rotate_left; (intro s1 r v hr H); rotate_right)
        | ((repeat (first | replace H := grd_k H | replace H := out_step H (by assumption))); refine again_step H (by assumption) (sub_auto ?_))
        | ((with_reducible refine fin_mk ?_); (repeat (first | replace H := grd_k H | replace H := out_step H (by assumption))); have H := Option.some.inj H; subst H))
  all_goals exact viewz _ _
def G23 : Env := G22.add 100 [] slices_Index___string_string_.S
theorem G23_ok : EnvOk Tryd.prog G23 := G22_ok.add ent_100 fun ar h r h1 ⟨a0, a1, y, hy, e1, e2, e3, e4⟩ => by
  subst e3 e4; exact (slices_Index___string_string_.spec a0 a1 y hy).le e1 e2
attribute [local irreducible] slices_Index___string_string_

noncomputable def slices_Contains___string_string_ (a0 : (List ByteArray)) (a1 : ByteArray) : Option (Bool) :=
  ((slices_Index___string_string_ a0 a1).bind fun y1 => (some (decide ((0 : Int) ≤ y1))))
def slices_Contains___string_string_.res (_ : (List ByteArray)) (_ : ByteArray) (y : Bool) : AV := (.bl y)
def slices_Contains___string_string_.out (_ : (List ByteArray)) (_ : ByteArray) (_ : Bool) : List (Option LB) := []
def slices_Contains___string_string_.S (ar : List AV) (h : List (Option LB)) (r : AV) (h1 : List (Option LB)) : Prop := ∃ a0 a1 y, slices_Contains___string_string_ a0 a1 = some y ∧ leL ar [(.tree .str a0), (.v (.string a1))] ∧ leH h [] ∧ r = slices_Contains___string_string_.res a0 a1 y ∧ h1 = slices_Contains___string_string_.out a0 a1 y
theorem slices_Contains___string_string_.call {ar : List AV} {h : List (Option LB)} {a0 : (List ByteArray)} {a1 : ByteArray} {y : Bool} (H : slices_Contains___string_string_ a0 a1 = some y) (h0 : leLk ar [(.tree .str a0), (.v (.string a1))] (leHk h [])) : slices_Contains___string_string_.S ar h (slices_Contains___string_string_.res a0 a1 y) (slices_Contains___string_string_.out a0 a1 y) := ⟨a0, a1, y, H, (args_ok h0).1, (args_ok h0).2, rfl, rfl⟩
set_option maxHeartbeats 100000000 in
set_option maxRecDepth 100000 in
theorem slices_Contains___string_string_.spec (a0 : (List ByteArray)) (a1 : ByteArray) (y : Bool) (H : slices_Contains___string_string_ a0 a1 = some y) : Spec Tryd.prog 86 [(.tree .str a0), (.v (.string a1))] [] (slices_Contains___string_string_.res a0 a1 y) (slices_Contains___string_string_.out a0 a1 y) := by
  refine spec_intro (G23_ok.at tok []) (ct := []) Tryd.func86 rfl (by kernel_rfl) (by kernel_rfl) rfl ?_
  repeat' first
    | ((with_reducible refine eqg ?_); exact rfl)
    | ((with_reducible refine KOb.mk ?_); kernel_rfl)
    | ((with_reducible intro h); (repeat (first | replace H := grd_k H | replace H := out_step H (by assumption))); first | replace H := cond_t h H | replace H := cond_f h H | exact absurd h (by decide) | skip)
    | ((with_reducible refine Ob.mk ?_); first | (with_reducible rfl) | (first | ((repeat (first | (with_reducible exact grd_p H) | (replace H := grd_k H) | (replace H := out_step H (by assumption)))); done) | rfl | ((repeat (first | exact grd_p H | replace H := grd_k H | replace H := out_step H (by assumption))); done) | ((repeat (first | exact grd_p H | (have hp := grd_p H; exact hp) | replace H := grd_k H | replace H := out_step H (by assumption) | (replace H := bind_some H; obtain ⟨_, _, H⟩ := H))); done) | (repeat (first | exact grd_p H | replace H := grd_k H | replace H := out_step H (by assumption)))))
    | (with_reducible exact True.intro)
    | constructor
    | ((conv => whnf); first
        | ((with_reducible refine Ob.mk ?_); first | (with_reducible rfl) | (first | ((repeat (first | (with_reducible exact grd_p H) | (replace H := grd_k H) | (replace H := out_step H (by assumption)))); done) | rfl | ((repeat (first | exact grd_p H | replace H := grd_k H | replace H := out_step H (by assumption))); done) | ((repeat (first | exact grd_p H | (have hp := grd_p H; exact hp) | replace H := grd_k H | replace H := out_step H (by assumption) | (replace H := bind_some H; obtain ⟨_, _, H⟩ := H))); done) | (repeat (first | exact grd_p H | replace H := grd_k H | replace H := out_step H (by assumption)))))
        | ((with_reducible refine CallW.mk ?_); (repeat (first | replace H := grd_k H | replace H := out_step H (by assumption))); replace H := bind_some H; obtain ⟨y, hy, H⟩ := H; first | ((with_reducible have hz : slices_Index___string_string_ _ _ = some y := hy); clear hz; refine Exists.intro _ (Exists.intro _ ⟨slices_Index___string_string_.call hy ?_, rfl, rfl, ?_⟩)))
        | ((with_reducible refine fin_mk ?_); (repeat (first | replace H := grd_k H | replace H := out_step H (by assumption))); have H := Option.some.inj H; subst H))
  all_goals exact viewz _ _
def G24 : Env := G23.add 86 [] slices_Contains___string_string_.S
theorem G24_ok : EnvOk Tryd.prog G24 := G23_ok.add ent_86 fun ar h r h1 ⟨a0, a1, y, hy, e1, e2, e3, e4⟩ => by
  subst e3 e4; exact (slices_Contains___string_string_.spec a0 a1 y hy).le e1 e2
attribute [local irreducible] slices_Contains___string_string_

end Go.Proofs.YteckiilljhdkpaaDoor
