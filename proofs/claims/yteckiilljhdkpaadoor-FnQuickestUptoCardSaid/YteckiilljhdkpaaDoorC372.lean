/-
  Contracts, printed by a program.
-/
import Derived.Test.YteckiilljhdkpaaDoorC371
namespace Go.Proofs.YteckiilljhdkpaaDoor
open Go.RowKit
attribute [local irreducible] Ob loopwp Sub Spec Fin Again CallW CutC KOb iter joinx outm

attribute [local irreducible] laws_rBig spec_l1Cur_next spec_l1Cur_pick spec_l1Cur_among spec_l1Cur_one spec_l1Cur_platform spec_DrawIsPlatform

noncomputable def spec_DrawQuickestGo (a0 : (List Int)) : Option (Platform) :=
  ((spec_DrawIsPlatform a0).bind fun y1 => (some (y1.1, y1.2.1, y1.2.2.1, y1.2.2.2.1, y1.2.2.2.2.1, y1.2.2.2.2.2.1, ())))
def spec_DrawQuickestGo.res (_ : (List Int)) (y : Platform) : AV := (.agg [(.v (.int .i64 y.1)), (.v (.int .i64 y.2.1)), (.v (.int .i64 y.2.2.1)), (.v (.int .i64 y.2.2.2.1)), (.bl y.2.2.2.2.1), (.v (.int .i64 y.2.2.2.2.2.1))])
def spec_DrawQuickestGo.out (_ : (List Int)) (_ : Platform) : List (Option LB) := []
def spec_DrawQuickestGo.S (ar : List AV) (h : List (Option LB)) (r : AV) (h1 : List (Option LB)) : Prop := ∃ a0 y, spec_DrawQuickestGo a0 = some y ∧ leL ar [(.tree (.int .u8) a0)] ∧ leH h [] ∧ r = spec_DrawQuickestGo.res a0 y ∧ h1 = spec_DrawQuickestGo.out a0 y
theorem spec_DrawQuickestGo.call {ar : List AV} {h : List (Option LB)} {a0 : (List Int)} {y : Platform} (H : spec_DrawQuickestGo a0 = some y) (h0 : leLk ar [(.tree (.int .u8) a0)] (leHk h [])) : spec_DrawQuickestGo.S ar h (spec_DrawQuickestGo.res a0 y) (spec_DrawQuickestGo.out a0 y) := ⟨a0, y, H, (args_ok h0).1, (args_ok h0).2, rfl, rfl⟩
set_option maxHeartbeats 100000000 in
set_option maxRecDepth 100000 in
theorem spec_DrawQuickestGo.spec (a0 : (List Int)) (y : Platform) (H : spec_DrawQuickestGo a0 = some y) : Spec Tryd.prog 51 [(.tree (.int .u8) a0)] [] (spec_DrawQuickestGo.res a0 y) (spec_DrawQuickestGo.out a0 y) := by
  refine spec_intro (G7_ok.at tok []) (ct := []) Tryd.func51 rfl (by kernel_rfl) (by kernel_rfl) rfl ?_
  repeat' first
    | ((with_reducible refine eqg ?_); exact rfl)
    | ((with_reducible refine KOb.mk ?_); kernel_rfl)
    | ((with_reducible intro h); (repeat (first | replace H := grd_k H | replace H := out_step H (by assumption))); first | replace H := cond_t h H | replace H := cond_f h H | exact absurd h (by decide) | skip)
    | ((with_reducible refine Ob.mk ?_); first | (with_reducible rfl) | (first | ((repeat (first | (with_reducible exact grd_p H) | (replace H := grd_k H) | (replace H := out_step H (by assumption)))); done) | rfl | ((repeat (first | exact grd_p H | replace H := grd_k H | replace H := out_step H (by assumption))); done) | ((repeat (first | exact grd_p H | (have hp := grd_p H; exact hp) | replace H := grd_k H | replace H := out_step H (by assumption) | (replace H := bind_some H; obtain ⟨_, _, H⟩ := H))); done) | (repeat (first | exact grd_p H | replace H := grd_k H | replace H := out_step H (by assumption)))))
    | (with_reducible exact True.intro)
    | constructor
    | ((conv => whnf); first
        | ((with_reducible refine Ob.mk ?_); first | (with_reducible rfl) | (first | ((repeat (first | (with_reducible exact grd_p H) | (replace H := grd_k H) | (replace H := out_step H (by assumption)))); done) | rfl | ((repeat (first | exact grd_p H | replace H := grd_k H | replace H := out_step H (by assumption))); done) | ((repeat (first | exact grd_p H | (have hp := grd_p H; exact hp) | replace H := grd_k H | replace H := out_step H (by assumption) | (replace H := bind_some H; obtain ⟨_, _, H⟩ := H))); done) | (repeat (first | exact grd_p H | replace H := grd_k H | replace H := out_step H (by assumption)))))
        | ((with_reducible refine CallW.mk ?_); (repeat (first | replace H := grd_k H | replace H := out_step H (by assumption))); replace H := bind_some H; obtain ⟨y, hy, H⟩ := H; first | ((with_reducible have hz : spec_DrawIsPlatform _ = some y := hy); clear hz; refine Exists.intro _ (Exists.intro _ ⟨spec_DrawIsPlatform.call hy ?_, rfl, rfl, ?_⟩)))
        | ((with_reducible refine fin_mk ?_); (repeat (first | replace H := grd_k H | replace H := out_step H (by assumption))); have H := Option.some.inj H; subst H))
def G8 : Env := G7.add 51 [] spec_DrawQuickestGo.S
theorem G8_ok : EnvOk Tryd.prog G8 := G7_ok.add ent_51 fun ar h r h1 ⟨a0, y, hy, e1, e2, e3, e4⟩ => by
  subst e3 e4; exact (spec_DrawQuickestGo.spec a0 y hy).le e1 e2
attribute [local irreducible] spec_DrawQuickestGo

noncomputable def impl_within (a0 : Int) (a1 : Int) (a2 : Int) : Option (Bool) :=
  (cond (decide (a1 ≤ a0)) ((some (decide (a0 ≤ a2)))) ((some false)))
def impl_within.res (_ : Int) (_ : Int) (_ : Int) (y : Bool) : AV := (.bl y)
def impl_within.out (_ : Int) (_ : Int) (_ : Int) (_ : Bool) : List (Option LB) := []
def impl_within.S (ar : List AV) (h : List (Option LB)) (r : AV) (h1 : List (Option LB)) : Prop := ∃ a0 a1 a2 y, impl_within a0 a1 a2 = some y ∧ leL ar [(.v (.int .i64 a0)), (.v (.int .i64 a1)), (.v (.int .i64 a2))] ∧ leH h [] ∧ r = impl_within.res a0 a1 a2 y ∧ h1 = impl_within.out a0 a1 a2 y
theorem impl_within.call {ar : List AV} {h : List (Option LB)} {a0 : Int} {a1 : Int} {a2 : Int} {y : Bool} (H : impl_within a0 a1 a2 = some y) (h0 : leLk ar [(.v (.int .i64 a0)), (.v (.int .i64 a1)), (.v (.int .i64 a2))] (leHk h [])) : impl_within.S ar h (impl_within.res a0 a1 a2 y) (impl_within.out a0 a1 a2 y) := ⟨a0, a1, a2, y, H, (args_ok h0).1, (args_ok h0).2, rfl, rfl⟩
set_option maxHeartbeats 100000000 in
set_option maxRecDepth 100000 in
theorem impl_within.spec (a0 : Int) (a1 : Int) (a2 : Int) (y : Bool) (H : impl_within a0 a1 a2 = some y) : Spec Tryd.prog 81 [(.v (.int .i64 a0)), (.v (.int .i64 a1)), (.v (.int .i64 a2))] [] (impl_within.res a0 a1 a2 y) (impl_within.out a0 a1 a2 y) := by
  refine spec_intro (G8_ok.at tok []) (ct := []) Tryd.func81 rfl (by kernel_rfl) (by kernel_rfl) rfl ?_
  repeat' first
    | ((with_reducible refine eqg ?_); exact rfl)
    | ((with_reducible refine KOb.mk ?_); kernel_rfl)
    | ((with_reducible intro h); (repeat (first | replace H := grd_k H | replace H := out_step H (by assumption))); first | replace H := cond_t h H | replace H := cond_f h H | exact absurd h (by decide) | skip)
    | ((with_reducible refine Ob.mk ?_); first | (with_reducible rfl) | (first | ((repeat (first | (with_reducible exact grd_p H) | (replace H := grd_k H) | (replace H := out_step H (by assumption)))); done) | rfl | ((repeat (first | exact grd_p H | replace H := grd_k H | replace H := out_step H (by assumption))); done) | ((repeat (first | exact grd_p H | (have hp := grd_p H; exact hp) | replace H := grd_k H | replace H := out_step H (by assumption) | (replace H := bind_some H; obtain ⟨_, _, H⟩ := H))); done) | (repeat (first | exact grd_p H | replace H := grd_k H | replace H := out_step H (by assumption)))))
    | (with_reducible exact True.intro)
    | constructor
    | ((conv => whnf); first
        | ((with_reducible refine Ob.mk ?_); first | (with_reducible rfl) | (first | ((repeat (first | (with_reducible exact grd_p H) | (replace H := grd_k H) | (replace H := out_step H (by assumption)))); done) | rfl | ((repeat (first | exact grd_p H | replace H := grd_k H | replace H := out_step H (by assumption))); done) | ((repeat (first | exact grd_p H | (have hp := grd_p H; exact hp) | replace H := grd_k H | replace H := out_step H (by assumption) | (replace H := bind_some H; obtain ⟨_, _, H⟩ := H))); done) | (repeat (first | exact grd_p H | replace H := grd_k H | replace H := out_step H (by assumption)))))
        | ((with_reducible refine fin_mk ?_); (repeat (first | replace H := grd_k H | replace H := out_step H (by assumption))); have H := Option.some.inj H; subst H))
def G9 : Env := G8.add 81 [] impl_within.S
theorem G9_ok : EnvOk Tryd.prog G9 := G8_ok.add ent_81 fun ar h r h1 ⟨a0, a1, a2, y, hy, e1, e2, e3, e4⟩ => by
  subst e3 e4; exact (impl_within.spec a0 a1 a2 y hy).le e1 e2
attribute [local irreducible] impl_within

noncomputable def impl_IsPlatform (a0 : Platform) : Option (Bool) :=
  ((impl_within a0.1 (0 : Int) (1 : Int)).bind fun y1 => (cond y1 ((impl_within a0.2.1 (0 : Int) (16 : Int)).bind fun y2 => (cond y2 ((impl_within a0.2.2.1 (0 : Int) a0.2.1).bind fun y3 => (cond y3 ((impl_within a0.2.2.2.1 (0 : Int) (500 : Int)).bind fun y4 => (cond y4 ((impl_within a0.2.2.2.2.2.1 (0 : Int) (9999 : Int)).bind fun y5 => (cond y5 (cond (decide ((0 : Int) < a0.2.1)) ((some true)) ((some (decide (a0.1 = (0 : Int)))))) ((some false)))) ((some false)))) ((some false)))) ((some false)))) ((some false))))
def impl_IsPlatform.res (_ : Platform) (y : Bool) : AV := (.bl y)
def impl_IsPlatform.out (_ : Platform) (_ : Bool) : List (Option LB) := []
def impl_IsPlatform.S (ar : List AV) (h : List (Option LB)) (r : AV) (h1 : List (Option LB)) : Prop := ∃ a0 y, impl_IsPlatform a0 = some y ∧ leL ar [(.agg [(.v (.int .i64 a0.1)), (.v (.int .i64 a0.2.1)), (.v (.int .i64 a0.2.2.1)), (.v (.int .i64 a0.2.2.2.1)), (.bl a0.2.2.2.2.1), (.v (.int .i64 a0.2.2.2.2.2.1))])] ∧ leH h [] ∧ r = impl_IsPlatform.res a0 y ∧ h1 = impl_IsPlatform.out a0 y
theorem impl_IsPlatform.call {ar : List AV} {h : List (Option LB)} {a0 : Platform} {y : Bool} (H : impl_IsPlatform a0 = some y) (h0 : leLk ar [(.agg [(.v (.int .i64 a0.1)), (.v (.int .i64 a0.2.1)), (.v (.int .i64 a0.2.2.1)), (.v (.int .i64 a0.2.2.2.1)), (.bl a0.2.2.2.2.1), (.v (.int .i64 a0.2.2.2.2.2.1))])] (leHk h [])) : impl_IsPlatform.S ar h (impl_IsPlatform.res a0 y) (impl_IsPlatform.out a0 y) := ⟨a0, y, H, (args_ok h0).1, (args_ok h0).2, rfl, rfl⟩
set_option maxHeartbeats 100000000 in
set_option maxRecDepth 100000 in
theorem impl_IsPlatform.spec (a0 : Platform) (y : Bool) (H : impl_IsPlatform a0 = some y) : Spec Tryd.prog 38 [(.agg [(.v (.int .i64 a0.1)), (.v (.int .i64 a0.2.1)), (.v (.int .i64 a0.2.2.1)), (.v (.int .i64 a0.2.2.2.1)), (.bl a0.2.2.2.2.1), (.v (.int .i64 a0.2.2.2.2.2.1))])] [] (impl_IsPlatform.res a0 y) (impl_IsPlatform.out a0 y) := by
  refine spec_intro (G9_ok.at tok []) (ct := []) Tryd.func38 rfl (by kernel_rfl) (by kernel_rfl) rfl ?_
  repeat' first
    | ((with_reducible refine eqg ?_); exact rfl)
    | ((with_reducible refine KOb.mk ?_); kernel_rfl)
    | ((with_reducible intro h); (repeat (first | replace H := grd_k H | replace H := out_step H (by assumption))); first | replace H := cond_t h H | replace H := cond_f h H | exact absurd h (by decide) | skip)
    | ((with_reducible refine Ob.mk ?_); first | (with_reducible rfl) | (first | ((repeat (first | (with_reducible exact grd_p H) | (replace H := grd_k H) | (replace H := out_step H (by assumption)))); done) | rfl | ((repeat (first | exact grd_p H | replace H := grd_k H | replace H := out_step H (by assumption))); done) | ((repeat (first | exact grd_p H | (have hp := grd_p H; exact hp) | replace H := grd_k H | replace H := out_step H (by assumption) | (replace H := bind_some H; obtain ⟨_, _, H⟩ := H))); done) | (repeat (first | exact grd_p H | replace H := grd_k H | replace H := out_step H (by assumption)))))
    | (with_reducible exact True.intro)
    | constructor
    | ((conv => whnf); first
        | ((with_reducible refine Ob.mk ?_); first | (with_reducible rfl) | (first | ((repeat (first | (with_reducible exact grd_p H) | (replace H := grd_k H) | (replace H := out_step H (by assumption)))); done) | rfl | ((repeat (first | exact grd_p H | replace H := grd_k H | replace H := out_step H (by assumption))); done) | ((repeat (first | exact grd_p H | (have hp := grd_p H; exact hp) | replace H := grd_k H | replace H := out_step H (by assumption) | (replace H := bind_some H; obtain ⟨_, _, H⟩ := H))); done) | (repeat (first | exact grd_p H | replace H := grd_k H | replace H := out_step H (by assumption)))))
        | ((with_reducible refine CallW.mk ?_); (repeat (first | replace H := grd_k H | replace H := out_step H (by assumption))); replace H := bind_some H; obtain ⟨y, hy, H⟩ := H; first | ((with_reducible have hz : impl_within _ _ _ = some y := hy); clear hz; refine Exists.intro _ (Exists.intro _ ⟨impl_within.call hy ?_, rfl, rfl, ?_⟩)))
        | ((with_reducible refine fin_mk ?_); (repeat (first | replace H := grd_k H | replace H := out_step H (by assumption))); have H := Option.some.inj H; subst H))
def G10 : Env := G9.add 38 [] impl_IsPlatform.S
theorem G10_ok : EnvOk Tryd.prog G10 := G9_ok.add ent_38 fun ar h r h1 ⟨a0, y, hy, e1, e2, e3, e4⟩ => by
  subst e3 e4; exact (impl_IsPlatform.spec a0 y hy).le e1 e2
attribute [local irreducible] impl_IsPlatform

noncomputable def impl_boardCounts (a0 : ByteArray) : Option (Int × Int) :=
  (cond (decide (a0 = (ByteArray.mk #[99, 111, 109, 101]))) ((some ((1 : Int), (16 : Int)))) (cond (decide (a0 = (ByteArray.mk #[101, 110, 116, 101, 114]))) ((some ((1 : Int), (16 : Int)))) (cond (decide (a0 = (ByteArray.mk #[108, 101, 97, 118, 101]))) ((some ((1 : Int), (16 : Int)))) (cond (decide (a0 = (ByteArray.mk #[97, 114, 114, 105, 118, 101]))) ((some ((1 : Int), (100 : Int)))) ((some ((0 : Int), (0 : Int))))))))
def impl_boardCounts.res (_ : ByteArray) (y : Int × Int) : AV := (.tup [(.v (.int .i64 y.1)), (.v (.int .i64 y.2))])
def impl_boardCounts.out (_ : ByteArray) (_ : Int × Int) : List (Option LB) := []
def impl_boardCounts.S (ar : List AV) (h : List (Option LB)) (r : AV) (h1 : List (Option LB)) : Prop := ∃ a0 y, impl_boardCounts a0 = some y ∧ leL ar [(.v (.string a0))] ∧ leH h [] ∧ r = impl_boardCounts.res a0 y ∧ h1 = impl_boardCounts.out a0 y
theorem impl_boardCounts.call {ar : List AV} {h : List (Option LB)} {a0 : ByteArray} {y : Int × Int} (H : impl_boardCounts a0 = some y) (h0 : leLk ar [(.v (.string a0))] (leHk h [])) : impl_boardCounts.S ar h (impl_boardCounts.res a0 y) (impl_boardCounts.out a0 y) := ⟨a0, y, H, (args_ok h0).1, (args_ok h0).2, rfl, rfl⟩
set_option maxHeartbeats 100000000 in
set_option maxRecDepth 100000 in
theorem impl_boardCounts.spec (a0 : ByteArray) (y : Int × Int) (H : impl_boardCounts a0 = some y) : Spec Tryd.prog 73 [(.v (.string a0))] [] (impl_boardCounts.res a0 y) (impl_boardCounts.out a0 y) := by
  refine spec_intro (G10_ok.at tok []) (ct := []) Tryd.func73 rfl (by kernel_rfl) (by kernel_rfl) rfl ?_
  repeat' first
    | ((with_reducible refine eqg ?_); exact rfl)
    | ((with_reducible refine KOb.mk ?_); kernel_rfl)
    | ((with_reducible intro h); (repeat (first | replace H := grd_k H | replace H := out_step H (by assumption))); first | replace H := cond_t h H | replace H := cond_f h H | exact absurd h (by decide) | skip)
    | ((with_reducible refine Ob.mk ?_); first | (with_reducible rfl) | (first | ((repeat (first | (with_reducible exact grd_p H) | (replace H := grd_k H) | (replace H := out_step H (by assumption)))); done) | rfl | ((repeat (first | exact grd_p H | replace H := grd_k H | replace H := out_step H (by assumption))); done) | ((repeat (first | exact grd_p H | (have hp := grd_p H; exact hp) | replace H := grd_k H | replace H := out_step H (by assumption) | (replace H := bind_some H; obtain ⟨_, _, H⟩ := H))); done) | (repeat (first | exact grd_p H | replace H := grd_k H | replace H := out_step H (by assumption)))))
    | (with_reducible exact True.intro)
    | constructor
    | ((conv => whnf); first
        | ((with_reducible refine Ob.mk ?_); first | (with_reducible rfl) | (first | ((repeat (first | (with_reducible exact grd_p H) | (replace H := grd_k H) | (replace H := out_step H (by assumption)))); done) | rfl | ((repeat (first | exact grd_p H | replace H := grd_k H | replace H := out_step H (by assumption))); done) | ((repeat (first | exact grd_p H | (have hp := grd_p H; exact hp) | replace H := grd_k H | replace H := out_step H (by assumption) | (replace H := bind_some H; obtain ⟨_, _, H⟩ := H))); done) | (repeat (first | exact grd_p H | replace H := grd_k H | replace H := out_step H (by assumption)))))
        | ((with_reducible refine fin_mk ?_); (repeat (first | replace H := grd_k H | replace H := out_step H (by assumption))); have H := Option.some.inj H; subst H))
def G11 : Env := G10.add 73 [] impl_boardCounts.S
theorem G11_ok : EnvOk Tryd.prog G11 := G10_ok.add ent_73 fun ar h r h1 ⟨a0, y, hy, e1, e2, e3, e4⟩ => by
  subst e3 e4; exact (impl_boardCounts.spec a0 y hy).le e1 e2
attribute [local irreducible] impl_boardCounts

noncomputable def slices_Index___string_string__loop1 (a0 : (List ByteArray)) (a1 : ByteArray) (v2 : Int) : Option (Lp (Int) ((Int) ⊕ (Unit))) :=
  (cond (decide (v2 < (a0.length : Int))) (grd (0 ≤ v2 ∧ v2 < (a0.length : Int)) (cond (decide (a1 = (a0.getD v2.toNat (ByteArray.mk #[])))) ((some (.out (Sum.inl v2)))) (some (.go (w64 (v2 + (1 : Int))))))) ((some (.out (Sum.inr ())))))
noncomputable def slices_Index___string_string_ (a0 : (List ByteArray)) (a1 : ByteArray) : Option (Int) :=
  ((iter (fun s => slices_Index___string_string__loop1 a0 a1 s) (0 : Int)).bind (Sum.elim (fun r4 => (some r4)) (fun _ => (some ((-1) : Int)))))
def slices_Index___string_string_.res (_ : (List ByteArray)) (_ : ByteArray) (y : Int) : AV := (.v (.int .i64 y))
def slices_Index___string_string_.out (_ : (List ByteArray)) (_ : ByteArray) (_ : Int) : List (Option LB) := []
def slices_Index___string_string_.S (ar : List AV) (h : List (Option LB)) (r : AV) (h1 : List (Option LB)) : Prop := ∃ a0 a1 y, slices_Index___string_string_ a0 a1 = some y ∧ leL ar [(.tree .str a0), (.v (.string a1))] ∧ leH h [] ∧ r = slices_Index___string_string_.res a0 a1 y ∧ h1 = slices_Index___string_string_.out a0 a1 y
theorem slices_Index___string_string_.call {ar : List AV} {h : List (Option LB)} {a0 : (List ByteArray)} {a1 : ByteArray} {y : Int} (H : slices_Index___string_string_ a0 a1 = some y) (h0 : leLk ar [(.tree .str a0), (.v (.string a1))] (leHk h [])) : slices_Index___string_string_.S ar h (slices_Index___string_string_.res a0 a1 y) (slices_Index___string_string_.out a0 a1 y) := ⟨a0, a1, y, H, (args_ok h0).1, (args_ok h0).2, rfl, rfl⟩
set_option maxHeartbeats 100000000 in
set_option maxRecDepth 100000 in
theorem slices_Index___string_string_.spec (a0 : (List ByteArray)) (a1 : ByteArray) (y : Int) (H : slices_Index___string_string_ a0 a1 = some y) : Spec Tryd.prog 100 [(.tree .str a0), (.v (.string a1))] [] (slices_Index___string_string_.res a0 a1 y) (slices_Index___string_string_.out a0 a1 y) := by
  refine spec_intro (G11_ok.at tok []) (ct := []) Tryd.func100 rfl (by kernel_rfl) (by kernel_rfl) rfl ?_
  repeat' first
    | ((with_reducible refine eqg ?_); exact rfl)
    | ((with_reducible refine KOb.mk ?_); kernel_rfl)
    | ((with_reducible intro h); (repeat (first | replace H := grd_k H | replace H := out_step H (by assumption))); first | replace H := cond_t h H | replace H := cond_f h H | exact absurd h (by decide) | skip)
    | ((with_reducible refine Ob.mk ?_); first | (with_reducible rfl) | (first | ((repeat (first | (with_reducible exact grd_p H) | (replace H := grd_k H) | (replace H := out_step H (by assumption)))); done) | rfl | ((repeat (first | exact grd_p H | replace H := grd_k H | replace H := out_step H (by assumption))); done) | ((repeat (first | exact grd_p H | (have hp := grd_p H; exact hp) | replace H := grd_k H | replace H := out_step H (by assumption) | (replace H := bind_some H; obtain ⟨_, _, H⟩ := H))); done) | (repeat (first | exact grd_p H | replace H := grd_k H | replace H := out_step H (by assumption)))))
    | (with_reducible exact True.intro)
    | constructor
    | ((conv => whnf); first
        | ((with_reducible refine Ob.mk ?_); first | (with_reducible rfl) | (first | ((repeat (first | (with_reducible exact grd_p H) | (replace H := grd_k H) | (replace H := out_step H (by assumption)))); done) | rfl | ((repeat (first | exact grd_p H | replace H := grd_k H | replace H := out_step H (by assumption))); done) | ((repeat (first | exact grd_p H | (have hp := grd_p H; exact hp) | replace H := grd_k H | replace H := out_step H (by assumption) | (replace H := bind_some H; obtain ⟨_, _, H⟩ := H))); done) | (repeat (first | exact grd_p H | replace H := grd_k H | replace H := out_step H (by assumption)))))
        | ((repeat (first | replace H := grd_k H | replace H := out_step H (by assumption))); refine loop_iter (G11_ok.at tok []) (ct := []) (F := (fun s1 : Int => ⟨sl [(0, (.tree .str a0)), (1, (.v (.string a1))), (7, (.v (.int .i64 (a0.length : Int)))), (8, (.v (.int .i64 s1)))], []⟩)) (step := (fun s : Int => slices_Index___string_string__loop1 _ _ s)) _ H (by kernel_rfl) (sub_auto ?_) ?_; rotate_left; (intro s1 r v hr H); rotate_right)
        | ((repeat (first | replace H := grd_k H | replace H := out_step H (by assumption))); refine again_step H (by assumption) (sub_auto ?_))
        | ((with_reducible refine fin_mk ?_); (repeat (first | replace H := grd_k H | replace H := out_step H (by assumption))); have H := Option.some.inj H; subst H))
  all_goals exact viewz _ _
def G12 : Env := G11.add 100 [] slices_Index___string_string_.S
theorem G12_ok : EnvOk Tryd.prog G12 := G11_ok.add ent_100 fun ar h r h1 ⟨a0, a1, y, hy, e1, e2, e3, e4⟩ => by
  subst e3 e4; exact (slices_Index___string_string_.spec a0 a1 y hy).le e1 e2
attribute [local irreducible] slices_Index___string_string_

noncomputable def slices_Contains___string_string_ (a0 : (List ByteArray)) (a1 : ByteArray) : Option (Bool) :=
  ((slices_Index___string_string_ a0 a1).bind fun y1 => (some (decide ((0 : Int) ≤ y1))))
def slices_Contains___string_string_.res (_ : (List ByteArray)) (_ : ByteArray) (y : Bool) : AV := (.bl y)
def slices_Contains___string_string_.out (_ : (List ByteArray)) (_ : ByteArray) (_ : Bool) : List (Option LB) := []
def slices_Contains___string_string_.S (ar : List AV) (h : List (Option LB)) (r : AV) (h1 : List (Option LB)) : Prop := ∃ a0 a1 y, slices_Contains___string_string_ a0 a1 = some y ∧ leL ar [(.tree .str a0), (.v (.string a1))] ∧ leH h [] ∧ r = slices_Contains___string_string_.res a0 a1 y ∧ h1 = slices_Contains___string_string_.out a0 a1 y
theorem slices_Contains___string_string_.call {ar : List AV} {h : List (Option LB)} {a0 : (List ByteArray)} {a1 : ByteArray} {y : Bool} (H : slices_Contains___string_string_ a0 a1 = some y) (h0 : leLk ar [(.tree .str a0), (.v (.string a1))] (leHk h [])) : slices_Contains___string_string_.S ar h (slices_Contains___string_string_.res a0 a1 y) (slices_Contains___string_string_.out a0 a1 y) := ⟨a0, a1, y, H, (args_ok h0).1, (args_ok h0).2, rfl, rfl⟩
set_option maxHeartbeats 100000000 in
set_option maxRecDepth 100000 in
theorem slices_Contains___string_string_.spec (a0 : (List ByteArray)) (a1 : ByteArray) (y : Bool) (H : slices_Contains___string_string_ a0 a1 = some y) : Spec Tryd.prog 86 [(.tree .str a0), (.v (.string a1))] [] (slices_Contains___string_string_.res a0 a1 y) (slices_Contains___string_string_.out a0 a1 y) := by
  refine spec_intro (G12_ok.at tok []) (ct := []) Tryd.func86 rfl (by kernel_rfl) (by kernel_rfl) rfl ?_
  repeat' first
    | ((with_reducible refine eqg ?_); exact rfl)
    | ((with_reducible refine KOb.mk ?_); kernel_rfl)
    | ((with_reducible intro h); (repeat (first | replace H := grd_k H | replace H := out_step H (by assumption))); first | replace H := cond_t h H | replace H := cond_f h H | exact absurd h (by decide) | skip)
    | ((with_reducible refine Ob.mk ?_); first | (with_reducible rfl) | (first | ((repeat (first | (with_reducible exact grd_p H) | (replace H := grd_k H) | (replace H := out_step H (by assumption)))); done) | rfl | ((repeat (first | exact grd_p H | replace H := grd_k H | replace H := out_step H (by assumption))); done) | ((repeat (first | exact grd_p H | (have hp := grd_p H; exact hp) | replace H := grd_k H | replace H := out_step H (by assumption) | (replace H := bind_some H; obtain ⟨_, _, H⟩ := H))); done) | (repeat (first | exact grd_p H | replace H := grd_k H | replace H := out_step H (by assumption)))))
    | (with_reducible exact True.intro)
    | constructor
    | ((conv => whnf); first
        | ((with_reducible refine Ob.mk ?_); first | (with_reducible rfl) | (first | ((repeat (first | (with_reducible exact grd_p H) | (replace H := grd_k H) | (replace H := out_step H (by assumption)))); done) | rfl | ((repeat (first | exact grd_p H | replace H := grd_k H | replace H := out_step H (by assumption))); done) | ((repeat (first | exact grd_p H | (have hp := grd_p H; exact hp) | replace H := grd_k H | replace H := out_step H (by assumption) | (replace H := bind_some H; obtain ⟨_, _, H⟩ := H))); done) | (repeat (first | exact grd_p H | replace H := grd_k H | replace H := out_step H (by assumption)))))
        | ((with_reducible refine CallW.mk ?_); (repeat (first | replace H := grd_k H | replace H := out_step H (by assumption))); replace H := bind_some H; obtain ⟨y, hy, H⟩ := H; first | ((with_reducible have hz : slices_Index___string_string_ _ _ = some y := hy); clear hz; refine Exists.intro _ (Exists.intro _ ⟨slices_Index___string_string_.call hy ?_, rfl, rfl, ?_⟩)))
        | ((with_reducible refine fin_mk ?_); (repeat (first | replace H := grd_k H | replace H := out_step H (by assumption))); have H := Option.some.inj H; subst H))
  all_goals exact viewz _ _
def G13 : Env := G12.add 86 [] slices_Contains___string_string_.S
theorem G13_ok : EnvOk Tryd.prog G13 := G12_ok.add ent_86 fun ar h r h1 ⟨a0, a1, y, hy, e1, e2, e3, e4⟩ => by
  subst e3 e4; exact (slices_Contains___string_string_.spec a0 a1 y hy).le e1 e2
attribute [local irreducible] slices_Contains___string_string_

noncomputable def impl_IsBoardEvent (a0 : BoardEvent) : Option (Bool) :=
  ((impl_boardCounts a0.1).bind fun y1 => ((slices_Contains___string_string_ [(ByteArray.mk #[99, 111, 109, 101]), (ByteArray.mk #[111, 112, 101, 110]), (ByteArray.mk #[115, 104, 117, 116]), (ByteArray.mk #[101, 110, 116, 101, 114]), (ByteArray.mk #[108, 101, 97, 118, 101]), (ByteArray.mk #[97, 114, 114, 105, 118, 101]), (ByteArray.mk #[108, 101, 118, 101, 108]), (ByteArray.mk #[103, 111])] a0.1).bind fun y2 => (cond y2 ((impl_within a0.2.1 y1.1 y1.2).bind fun y3 => (some y3)) ((some false)))))
def impl_IsBoardEvent.res (_ : BoardEvent) (y : Bool) : AV := (.bl y)
def impl_IsBoardEvent.out (_ : BoardEvent) (_ : Bool) : List (Option LB) := []
def impl_IsBoardEvent.S (ar : List AV) (h : List (Option LB)) (r : AV) (h1 : List (Option LB)) : Prop := ∃ a0 y, impl_IsBoardEvent a0 = some y ∧ leL ar [(.agg [(.v (.string a0.1)), (.v (.int .i64 a0.2.1))])] ∧ leH h [] ∧ r = impl_IsBoardEvent.res a0 y ∧ h1 = impl_IsBoardEvent.out a0 y
theorem impl_IsBoardEvent.call {ar : List AV} {h : List (Option LB)} {a0 : BoardEvent} {y : Bool} (H : impl_IsBoardEvent a0 = some y) (h0 : leLk ar [(.agg [(.v (.string a0.1)), (.v (.int .i64 a0.2.1))])] (leHk h [])) : impl_IsBoardEvent.S ar h (impl_IsBoardEvent.res a0 y) (impl_IsBoardEvent.out a0 y) := ⟨a0, y, H, (args_ok h0).1, (args_ok h0).2, rfl, rfl⟩
set_option maxHeartbeats 100000000 in
set_option maxRecDepth 100000 in
theorem impl_IsBoardEvent.spec (a0 : BoardEvent) (y : Bool) (H : impl_IsBoardEvent a0 = some y) : Spec Tryd.prog 45 [(.agg [(.v (.string a0.1)), (.v (.int .i64 a0.2.1))])] [] (impl_IsBoardEvent.res a0 y) (impl_IsBoardEvent.out a0 y) := by
  refine spec_intro (G13_ok.at tok []) (ct := []) Tryd.func45 rfl (by kernel_rfl) (by kernel_rfl) rfl ?_
  repeat' first
    | ((with_reducible refine eqg ?_); exact rfl)
    | ((with_reducible refine KOb.mk ?_); kernel_rfl)
    | ((with_reducible intro h); (repeat (first | replace H := grd_k H | replace H := out_step H (by assumption))); first | replace H := cond_t h H | replace H := cond_f h H | exact absurd h (by decide) | skip)
    | ((with_reducible refine Ob.mk ?_); first | (with_reducible rfl) | (first | ((repeat (first | (with_reducible exact grd_p H) | (replace H := grd_k H) | (replace H := out_step H (by assumption)))); done) | rfl | ((repeat (first | exact grd_p H | replace H := grd_k H | replace H := out_step H (by assumption))); done) | ((repeat (first | exact grd_p H | (have hp := grd_p H; exact hp) | replace H := grd_k H | replace H := out_step H (by assumption) | (replace H := bind_some H; obtain ⟨_, _, H⟩ := H))); done) | (repeat (first | exact grd_p H | replace H := grd_k H | replace H := out_step H (by assumption)))))
    | (with_reducible exact True.intro)
    | constructor
    | ((conv => whnf); first
        | ((with_reducible refine Ob.mk ?_); first | (with_reducible rfl) | (first | ((repeat (first | (with_reducible exact grd_p H) | (replace H := grd_k H) | (replace H := out_step H (by assumption)))); done) | rfl | ((repeat (first | exact grd_p H | replace H := grd_k H | replace H := out_step H (by assumption))); done) | ((repeat (first | exact grd_p H | (have hp := grd_p H; exact hp) | replace H := grd_k H | replace H := out_step H (by assumption) | (replace H := bind_some H; obtain ⟨_, _, H⟩ := H))); done) | (repeat (first | exact grd_p H | replace H := grd_k H | replace H := out_step H (by assumption)))))
        | ((with_reducible refine CallW.mk ?_); (repeat (first | replace H := grd_k H | replace H := out_step H (by assumption))); replace H := bind_some H; obtain ⟨y, hy, H⟩ := H; first | ((with_reducible have hz : impl_boardCounts _ = some y := hy); clear hz; refine Exists.intro _ (Exists.intro _ ⟨impl_boardCounts.call hy ?_, rfl, rfl, ?_⟩)) | ((with_reducible have hz : slices_Contains___string_string_ _ _ = some y := hy); clear hz; refine Exists.intro _ (Exists.intro _ ⟨slices_Contains___string_string_.call hy ?_, rfl, rfl, ?_⟩)) | ((with_reducible have hz : impl_within _ _ _ = some y := hy); clear hz; refine Exists.intro _ (Exists.intro _ ⟨impl_within.call hy ?_, rfl, rfl, ?_⟩)))
        | ((with_reducible refine fin_mk ?_); (repeat (first | replace H := grd_k H | replace H := out_step H (by assumption))); have H := Option.some.inj H; subst H))
def G14 : Env := G13.add 45 [] impl_IsBoardEvent.S
theorem G14_ok : EnvOk Tryd.prog G14 := G13_ok.add ent_45 fun ar h r h1 ⟨a0, y, hy, e1, e2, e3, e4⟩ => by
  subst e3 e4; exact (impl_IsBoardEvent.spec a0 y hy).le e1 e2
attribute [local irreducible] impl_IsBoardEvent

end Go.Proofs.YteckiilljhdkpaaDoor
