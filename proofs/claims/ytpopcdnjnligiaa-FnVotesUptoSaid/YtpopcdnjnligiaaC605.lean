/-
  Contracts, printed by a program.
-/
import Derived.Test.YtpopcdnjnligiaaC604
namespace Go.Proofs.Ytpopcdnjnligiaa
open Go.RowKit
attribute [local irreducible] Ob loopwp Sub Spec Fin Again CallW CutC KOb iter joinx outm

attribute [local irreducible] laws_vBig spec_l1Cur_next spec_l1Cur_pick spec_l1Cur_among spec_l1Cur_sensors spec_DrawVoteOf impl_within impl_allIn slices_Clone___int_int_ impl_voteOf_1 math_bits_Len32 math_bits_Len64 math_bits_Len cmp_isNaN_int_ cmp_Less_int_ slices_insertionSortOrdered_int_ slices_siftDownOrdered_int_ slices_heapSortOrdered_int_ slices_nextPowerOfTwo slices_xorshift_Next slices_breakPatternsOrdered_int_ slices_order2Ordered_int_ slices_medianOrdered_int_ slices_medianAdjacentOrdered_int_ slices_choosePivotOrdered_int_ slices_reverseRangeOrdered_int_ slices_partialInsertionSortOrdered_int_ slices_partitionEqualOrdered_int_ slices_partitionOrdered_int_ slices_pdqsortOrdered_int_ slices_Sort___int_int_ slices_IndexFunc___int_int__i1 slices_DeleteFunc___int_int__i1 impl_voteOf impl_VoteOf spec_l1In spec_l12Sensors spec_l12Of spec_VoteOf laws_vHas spec_DrawBrokenSensors impl_distance impl_BrokenSensors spec_l1Most spec_BrokenSensors laws_vInts laws_vWithin spec_l1Cur_windRule

noncomputable def spec_DrawIsWindRule (a0 : (List Int)) : Option (WindRule) :=
  ((spec_l1Cur_windRule (a0, (0 : Int), (0 : Int), ())).bind fun y1 => (some (y1.1.1, y1.1.2.1, y1.1.2.2.1, y1.1.2.2.2.1, ())))
def spec_DrawIsWindRule.res (_ : (List Int)) (y : WindRule) : AV := (.agg [(.v (.int .i64 y.1)), (.v (.int .i64 y.2.1)), (.v (.int .i64 y.2.2.1)), (.v (.int .i64 y.2.2.2.1))])
def spec_DrawIsWindRule.out (_ : (List Int)) (_ : WindRule) : List (Option LB) := []
def spec_DrawIsWindRule.S (ar : List AV) (h : List (Option LB)) (r : AV) (h1 : List (Option LB)) : Prop := ∃ a0 y, spec_DrawIsWindRule a0 = some y ∧ leL ar [(.tree (.int .u8) a0)] ∧ leH h [] ∧ r = spec_DrawIsWindRule.res a0 y ∧ h1 = spec_DrawIsWindRule.out a0 y
theorem spec_DrawIsWindRule.call {ar : List AV} {h : List (Option LB)} {a0 : (List Int)} {y : WindRule} (H : spec_DrawIsWindRule a0 = some y) (h0 : leLk ar [(.tree (.int .u8) a0)] (leHk h [])) : spec_DrawIsWindRule.S ar h (spec_DrawIsWindRule.res a0 y) (spec_DrawIsWindRule.out a0 y) := ⟨a0, y, H, (args_ok h0).1, (args_ok h0).2, rfl, rfl⟩
set_option maxHeartbeats 100000000 in
set_option maxRecDepth 100000 in
theorem spec_DrawIsWindRule.spec (a0 : (List Int)) (y : WindRule) (H : spec_DrawIsWindRule a0 = some y) : Spec Try.prog 131 [(.tree (.int .u8) a0)] [] (spec_DrawIsWindRule.res a0 y) (spec_DrawIsWindRule.out a0 y) := by
  refine spec_intro (G48_ok.at tok []) (ct := []) Try.func131 rfl (by kernel_rfl) (by kernel_rfl) rfl ?_
  repeat' first
    | ((with_reducible refine eqg ?_); exact rfl)
    | ((with_reducible refine KOb.mk ?_); kernel_rfl)
    | ((with_reducible intro h); (repeat (first | replace H := grd_k H | replace H := out_step H (by assumption))); first | replace H := cond_t h H | replace H := cond_f h H | exact absurd h (by decide) | skip)
    | ((with_reducible refine Ob.mk ?_); first | (with_reducible rfl) | (first | ((repeat (first | (with_reducible exact grd_p H) | (replace H := grd_k H) | (replace H := out_step H (by assumption)))); done) | rfl | ((repeat (first | exact grd_p H | replace H := grd_k H | replace H := out_step H (by assumption))); done) | ((repeat (first | exact grd_p H | (have hp := grd_p H; exact hp) | replace H := grd_k H | replace H := out_step H (by assumption) | (replace H := bind_some H; obtain ⟨_, _, H⟩ := H))); done) | (repeat (first | exact grd_p H | replace H := grd_k H | replace H := out_step H (by assumption)))))
    | (with_reducible exact True.intro)
    | ((conv => whnf); first
        | (with_reducible refine And.intro ?_ ?_)
        | (with_reducible exact True.intro)
        | ((with_reducible refine Ob.mk ?_); first | (with_reducible rfl) | (first | ((repeat (first | (with_reducible exact grd_p H) | (replace H := grd_k H) | (replace H := out_step H (by assumption)))); done) | rfl | ((repeat (first | exact grd_p H | replace H := grd_k H | replace H := out_step H (by assumption))); done) | ((repeat (first | exact grd_p H | (have hp := grd_p H; exact hp) | replace H := grd_k H | replace H := out_step H (by assumption) | (replace H := bind_some H; obtain ⟨_, _, H⟩ := H))); done) | (repeat (first | exact grd_p H | replace H := grd_k H | replace H := out_step H (by assumption)))))
        | ((with_reducible refine CallW.mk ?_); (repeat (first | replace H := grd_k H | replace H := out_step H (by assumption))); replace H := bind_some H; obtain ⟨y, hy, H⟩ := H; first | ((with_reducible have hz : spec_l1Cur_windRule _ = some y := hy); clear hz; refine Exists.intro _ (Exists.intro _ ⟨spec_l1Cur_windRule.call hy ?_, rfl, rfl, ?_⟩)))
        | ((with_reducible refine fin_mk ?_); (repeat (first | replace H := grd_k H | replace H := out_step H (by assumption))); have H := Option.some.inj H; subst H))
    | constructor
def G49 : Env := G48.add 131 [] spec_DrawIsWindRule.S
theorem G49_ok : EnvOk Try.prog G49 := G48_ok.add ent_131 fun ar h r h1 ⟨a0, y, hy, e1, e2, e3, e4⟩ => by
  subst e3 e4; exact (spec_DrawIsWindRule.spec a0 y hy).le e1 e2
attribute [local irreducible] spec_DrawIsWindRule

noncomputable def spec_DrawGreatestFree (a0 : (List Int)) : Option (WindRule) :=
  ((spec_DrawIsWindRule a0).bind fun y1 => (some (y1.1, y1.2.1, y1.2.2.1, y1.2.2.2.1, ())))
def spec_DrawGreatestFree.res (_ : (List Int)) (y : WindRule) : AV := (.agg [(.v (.int .i64 y.1)), (.v (.int .i64 y.2.1)), (.v (.int .i64 y.2.2.1)), (.v (.int .i64 y.2.2.2.1))])
def spec_DrawGreatestFree.out (_ : (List Int)) (_ : WindRule) : List (Option LB) := []
def spec_DrawGreatestFree.S (ar : List AV) (h : List (Option LB)) (r : AV) (h1 : List (Option LB)) : Prop := ∃ a0 y, spec_DrawGreatestFree a0 = some y ∧ leL ar [(.tree (.int .u8) a0)] ∧ leH h [] ∧ r = spec_DrawGreatestFree.res a0 y ∧ h1 = spec_DrawGreatestFree.out a0 y
theorem spec_DrawGreatestFree.call {ar : List AV} {h : List (Option LB)} {a0 : (List Int)} {y : WindRule} (H : spec_DrawGreatestFree a0 = some y) (h0 : leLk ar [(.tree (.int .u8) a0)] (leHk h [])) : spec_DrawGreatestFree.S ar h (spec_DrawGreatestFree.res a0 y) (spec_DrawGreatestFree.out a0 y) := ⟨a0, y, H, (args_ok h0).1, (args_ok h0).2, rfl, rfl⟩
set_option maxHeartbeats 100000000 in
set_option maxRecDepth 100000 in
theorem spec_DrawGreatestFree.spec (a0 : (List Int)) (y : WindRule) (H : spec_DrawGreatestFree a0 = some y) : Spec Try.prog 71 [(.tree (.int .u8) a0)] [] (spec_DrawGreatestFree.res a0 y) (spec_DrawGreatestFree.out a0 y) := by
  refine spec_intro (G49_ok.at tok []) (ct := []) Try.func71 rfl (by kernel_rfl) (by kernel_rfl) rfl ?_
  repeat' first
    | ((with_reducible refine eqg ?_); exact rfl)
    | ((with_reducible refine KOb.mk ?_); kernel_rfl)
    | ((with_reducible intro h); (repeat (first | replace H := grd_k H | replace H := out_step H (by assumption))); first | replace H := cond_t h H | replace H := cond_f h H | exact absurd h (by decide) | skip)
    | ((with_reducible refine Ob.mk ?_); first | (with_reducible rfl) | (first | ((repeat (first | (with_reducible exact grd_p H) | (replace H := grd_k H) | (replace H := out_step H (by assumption)))); done) | rfl | ((repeat (first | exact grd_p H | replace H := grd_k H | replace H := out_step H (by assumption))); done) | ((repeat (first | exact grd_p H | (have hp := grd_p H; exact hp) | replace H := grd_k H | replace H := out_step H (by assumption) | (replace H := bind_some H; obtain ⟨_, _, H⟩ := H))); done) | (repeat (first | exact grd_p H | replace H := grd_k H | replace H := out_step H (by assumption)))))
    | (with_reducible exact True.intro)
    | ((conv => whnf); first
        | (with_reducible refine And.intro ?_ ?_)
        | (with_reducible exact True.intro)
        | ((with_reducible refine Ob.mk ?_); first | (with_reducible rfl) | (first | ((repeat (first | (with_reducible exact grd_p H) | (replace H := grd_k H) | (replace H := out_step H (by assumption)))); done) | rfl | ((repeat (first | exact grd_p H | replace H := grd_k H | replace H := out_step H (by assumption))); done) | ((repeat (first | exact grd_p H | (have hp := grd_p H; exact hp) | replace H := grd_k H | replace H := out_step H (by assumption) | (replace H := bind_some H; obtain ⟨_, _, H⟩ := H))); done) | (repeat (first | exact grd_p H | replace H := grd_k H | replace H := out_step H (by assumption)))))
        | ((with_reducible refine CallW.mk ?_); (repeat (first | replace H := grd_k H | replace H := out_step H (by assumption))); replace H := bind_some H; obtain ⟨y, hy, H⟩ := H; first | ((with_reducible have hz : spec_DrawIsWindRule _ = some y := hy); clear hz; refine Exists.intro _ (Exists.intro _ ⟨spec_DrawIsWindRule.call hy ?_, rfl, rfl, ?_⟩)))
        | ((with_reducible refine fin_mk ?_); (repeat (first | replace H := grd_k H | replace H := out_step H (by assumption))); have H := Option.some.inj H; subst H))
    | constructor
def G50 : Env := G49.add 71 [] spec_DrawGreatestFree.S
theorem G50_ok : EnvOk Try.prog G50 := G49_ok.add ent_71 fun ar h r h1 ⟨a0, y, hy, e1, e2, e3, e4⟩ => by
  subst e3 e4; exact (spec_DrawGreatestFree.spec a0 y hy).le e1 e2
attribute [local irreducible] spec_DrawGreatestFree

noncomputable def impl_IsWindRule (a0 : WindRule) : Option (Bool) :=
  (cond (decide ((2 : Int) ≤ a0.1)) (cond (decide (a0.1 < a0.2.1)) (cond (decide (a0.2.1 ≤ (60 : Int))) ((impl_within a0.2.2.1 (1 : Int) (w64 (a0.1 - (1 : Int)))).bind fun y1 => (cond y1 ((impl_within a0.2.2.2.1 (1 : Int) (10 : Int)).bind fun y2 => (some y2)) ((some false)))) ((some false))) ((some false))) ((some false)))
def impl_IsWindRule.res (_ : WindRule) (y : Bool) : AV := (.bl y)
def impl_IsWindRule.out (_ : WindRule) (_ : Bool) : List (Option LB) := []
def impl_IsWindRule.S (ar : List AV) (h : List (Option LB)) (r : AV) (h1 : List (Option LB)) : Prop := ∃ a0 y, impl_IsWindRule a0 = some y ∧ leL ar [(.agg [(.v (.int .i64 a0.1)), (.v (.int .i64 a0.2.1)), (.v (.int .i64 a0.2.2.1)), (.v (.int .i64 a0.2.2.2.1))])] ∧ leH h [] ∧ r = impl_IsWindRule.res a0 y ∧ h1 = impl_IsWindRule.out a0 y
theorem impl_IsWindRule.call {ar : List AV} {h : List (Option LB)} {a0 : WindRule} {y : Bool} (H : impl_IsWindRule a0 = some y) (h0 : leLk ar [(.agg [(.v (.int .i64 a0.1)), (.v (.int .i64 a0.2.1)), (.v (.int .i64 a0.2.2.1)), (.v (.int .i64 a0.2.2.2.1))])] (leHk h [])) : impl_IsWindRule.S ar h (impl_IsWindRule.res a0 y) (impl_IsWindRule.out a0 y) := ⟨a0, y, H, (args_ok h0).1, (args_ok h0).2, rfl, rfl⟩
set_option maxHeartbeats 100000000 in
set_option maxRecDepth 100000 in
theorem impl_IsWindRule.spec (a0 : WindRule) (y : Bool) (H : impl_IsWindRule a0 = some y) : Spec Try.prog 132 [(.agg [(.v (.int .i64 a0.1)), (.v (.int .i64 a0.2.1)), (.v (.int .i64 a0.2.2.1)), (.v (.int .i64 a0.2.2.2.1))])] [] (impl_IsWindRule.res a0 y) (impl_IsWindRule.out a0 y) := by
  refine spec_intro (G50_ok.at tok []) (ct := []) Try.func132 rfl (by kernel_rfl) (by kernel_rfl) rfl ?_
  repeat' first
    | ((with_reducible refine eqg ?_); exact rfl)
    | ((with_reducible refine KOb.mk ?_); kernel_rfl)
    | ((with_reducible intro h); (repeat (first | replace H := grd_k H | replace H := out_step H (by assumption))); first | replace H := cond_t h H | replace H := cond_f h H | exact absurd h (by decide) | skip)
    | ((with_reducible refine Ob.mk ?_); first | (with_reducible rfl) | (first | ((repeat (first | (with_reducible exact grd_p H) | (replace H := grd_k H) | (replace H := out_step H (by assumption)))); done) | rfl | ((repeat (first | exact grd_p H | replace H := grd_k H | replace H := out_step H (by assumption))); done) | ((repeat (first | exact grd_p H | (have hp := grd_p H; exact hp) | replace H := grd_k H | replace H := out_step H (by assumption) | (replace H := bind_some H; obtain ⟨_, _, H⟩ := H))); done) | (repeat (first | exact grd_p H | replace H := grd_k H | replace H := out_step H (by assumption)))))
    | (with_reducible exact True.intro)
    | ((conv => whnf); first
        | (with_reducible refine And.intro ?_ ?_)
        | (with_reducible exact True.intro)
        | ((with_reducible refine Ob.mk ?_); first | (with_reducible rfl) | (first | ((repeat (first | (with_reducible exact grd_p H) | (replace H := grd_k H) | (replace H := out_step H (by assumption)))); done) | rfl | ((repeat (first | exact grd_p H | replace H := grd_k H | replace H := out_step H (by assumption))); done) | ((repeat (first | exact grd_p H | (have hp := grd_p H; exact hp) | replace H := grd_k H | replace H := out_step H (by assumption) | (replace H := bind_some H; obtain ⟨_, _, H⟩ := H))); done) | (repeat (first | exact grd_p H | replace H := grd_k H | replace H := out_step H (by assumption)))))
        | ((with_reducible refine CallW.mk ?_); (repeat (first | replace H := grd_k H | replace H := out_step H (by assumption))); replace H := bind_some H; obtain ⟨y, hy, H⟩ := H; first | ((with_reducible have hz : impl_within _ _ _ = some y := hy); clear hz; refine Exists.intro _ (Exists.intro _ ⟨impl_within.call hy ?_, rfl, rfl, ?_⟩)))
        | ((with_reducible refine fin_mk ?_); (repeat (first | replace H := grd_k H | replace H := out_step H (by assumption))); have H := Option.some.inj H; subst H))
    | constructor
def G51 : Env := G50.add 132 [] impl_IsWindRule.S
theorem G51_ok : EnvOk Try.prog G51 := G50_ok.add ent_132 fun ar h r h1 ⟨a0, y, hy, e1, e2, e3, e4⟩ => by
  subst e3 e4; exact (impl_IsWindRule.spec a0 y hy).le e1 e2
attribute [local irreducible] impl_IsWindRule

noncomputable def impl_GreatestFree (a0 : WindRule) : Option (Int × Bool) :=
  ((impl_IsWindRule (a0.1, a0.2.1, a0.2.2.1, a0.2.2.2.1, ())).bind fun y1 => (cond (!y1) ((some ((0 : Int), false))) ((some ((w64 (a0.1 - (1 : Int))), true)))))
def impl_GreatestFree.res (_ : WindRule) (y : Int × Bool) : AV := (.tup [(.v (.int .i64 y.1)), (.bl y.2)])
def impl_GreatestFree.out (_ : WindRule) (_ : Int × Bool) : List (Option LB) := []
def impl_GreatestFree.S (ar : List AV) (h : List (Option LB)) (r : AV) (h1 : List (Option LB)) : Prop := ∃ a0 y, impl_GreatestFree a0 = some y ∧ leL ar [(.agg [(.v (.int .i64 a0.1)), (.v (.int .i64 a0.2.1)), (.v (.int .i64 a0.2.2.1)), (.v (.int .i64 a0.2.2.2.1))])] ∧ leH h [] ∧ r = impl_GreatestFree.res a0 y ∧ h1 = impl_GreatestFree.out a0 y
theorem impl_GreatestFree.call {ar : List AV} {h : List (Option LB)} {a0 : WindRule} {y : Int × Bool} (H : impl_GreatestFree a0 = some y) (h0 : leLk ar [(.agg [(.v (.int .i64 a0.1)), (.v (.int .i64 a0.2.1)), (.v (.int .i64 a0.2.2.1)), (.v (.int .i64 a0.2.2.2.1))])] (leHk h [])) : impl_GreatestFree.S ar h (impl_GreatestFree.res a0 y) (impl_GreatestFree.out a0 y) := ⟨a0, y, H, (args_ok h0).1, (args_ok h0).2, rfl, rfl⟩
set_option maxHeartbeats 100000000 in
set_option maxRecDepth 100000 in
theorem impl_GreatestFree.spec (a0 : WindRule) (y : Int × Bool) (H : impl_GreatestFree a0 = some y) : Spec Try.prog 72 [(.agg [(.v (.int .i64 a0.1)), (.v (.int .i64 a0.2.1)), (.v (.int .i64 a0.2.2.1)), (.v (.int .i64 a0.2.2.2.1))])] [] (impl_GreatestFree.res a0 y) (impl_GreatestFree.out a0 y) := by
  refine spec_intro (G51_ok.at tok []) (ct := []) Try.func72 rfl (by kernel_rfl) (by kernel_rfl) rfl ?_
  repeat' first
    | ((with_reducible refine eqg ?_); exact rfl)
    | ((with_reducible refine KOb.mk ?_); kernel_rfl)
    | ((with_reducible intro h); (repeat (first | replace H := grd_k H | replace H := out_step H (by assumption))); first | replace H := cond_t h H | replace H := cond_f h H | exact absurd h (by decide) | skip)
    | ((with_reducible refine Ob.mk ?_); first | (with_reducible rfl) | (first | ((repeat (first | (with_reducible exact grd_p H) | (replace H := grd_k H) | (replace H := out_step H (by assumption)))); done) | rfl | ((repeat (first | exact grd_p H | replace H := grd_k H | replace H := out_step H (by assumption))); done) | ((repeat (first | exact grd_p H | (have hp := grd_p H; exact hp) | replace H := grd_k H | replace H := out_step H (by assumption) | (replace H := bind_some H; obtain ⟨_, _, H⟩ := H))); done) | (repeat (first | exact grd_p H | replace H := grd_k H | replace H := out_step H (by assumption)))))
    | (with_reducible exact True.intro)
    | ((conv => whnf); first
        | (with_reducible refine And.intro ?_ ?_)
        | (with_reducible exact True.intro)
        | ((with_reducible refine Ob.mk ?_); first | (with_reducible rfl) | (first | ((repeat (first | (with_reducible exact grd_p H) | (replace H := grd_k H) | (replace H := out_step H (by assumption)))); done) | rfl | ((repeat (first | exact grd_p H | replace H := grd_k H | replace H := out_step H (by assumption))); done) | ((repeat (first | exact grd_p H | (have hp := grd_p H; exact hp) | replace H := grd_k H | replace H := out_step H (by assumption) | (replace H := bind_some H; obtain ⟨_, _, H⟩ := H))); done) | (repeat (first | exact grd_p H | replace H := grd_k H | replace H := out_step H (by assumption)))))
        | ((with_reducible refine CallW.mk ?_); (repeat (first | replace H := grd_k H | replace H := out_step H (by assumption))); replace H := bind_some H; obtain ⟨y, hy, H⟩ := H; first | ((with_reducible have hz : impl_IsWindRule _ = some y := hy); clear hz; refine Exists.intro _ (Exists.intro _ ⟨impl_IsWindRule.call hy ?_, rfl, rfl, ?_⟩)))
        | ((with_reducible refine fin_mk ?_); (repeat (first | replace H := grd_k H | replace H := out_step H (by assumption))); have H := Option.some.inj H; subst H))
    | constructor
def G52 : Env := G51.add 72 [] impl_GreatestFree.S
theorem G52_ok : EnvOk Try.prog G52 := G51_ok.add ent_72 fun ar h r h1 ⟨a0, y, hy, e1, e2, e3, e4⟩ => by
  subst e3 e4; exact (impl_GreatestFree.spec a0 y hy).le e1 e2
attribute [local irreducible] impl_GreatestFree

noncomputable def spec_l12Rule (a0 : WindRule) : Option (Bool) :=
  ((spec_l1In a0.1 (2 : Int) (60 : Int)).bind fun y1 => (cond y1 ((spec_l1In a0.2.1 (w64 (a0.1 + (1 : Int))) (60 : Int)).bind fun y2 => (cond y2 ((spec_l1In a0.2.2.1 (1 : Int) (w64 (a0.1 - (1 : Int)))).bind fun y3 => (cond y3 ((spec_l1In a0.2.2.2.1 (1 : Int) (10 : Int)).bind fun y4 => (some y4)) ((some false)))) ((some false)))) ((some false))))
def spec_l12Rule.res (_ : WindRule) (y : Bool) : AV := (.bl y)
def spec_l12Rule.out (_ : WindRule) (_ : Bool) : List (Option LB) := []
def spec_l12Rule.S (ar : List AV) (h : List (Option LB)) (r : AV) (h1 : List (Option LB)) : Prop := ∃ a0 y, spec_l12Rule a0 = some y ∧ leL ar [(.agg [(.v (.int .i64 a0.1)), (.v (.int .i64 a0.2.1)), (.v (.int .i64 a0.2.2.1)), (.v (.int .i64 a0.2.2.2.1))])] ∧ leH h [] ∧ r = spec_l12Rule.res a0 y ∧ h1 = spec_l12Rule.out a0 y
theorem spec_l12Rule.call {ar : List AV} {h : List (Option LB)} {a0 : WindRule} {y : Bool} (H : spec_l12Rule a0 = some y) (h0 : leLk ar [(.agg [(.v (.int .i64 a0.1)), (.v (.int .i64 a0.2.1)), (.v (.int .i64 a0.2.2.1)), (.v (.int .i64 a0.2.2.2.1))])] (leHk h [])) : spec_l12Rule.S ar h (spec_l12Rule.res a0 y) (spec_l12Rule.out a0 y) := ⟨a0, y, H, (args_ok h0).1, (args_ok h0).2, rfl, rfl⟩
set_option maxHeartbeats 100000000 in
set_option maxRecDepth 100000 in
theorem spec_l12Rule.spec (a0 : WindRule) (y : Bool) (H : spec_l12Rule a0 = some y) : Spec Try.prog 133 [(.agg [(.v (.int .i64 a0.1)), (.v (.int .i64 a0.2.1)), (.v (.int .i64 a0.2.2.1)), (.v (.int .i64 a0.2.2.2.1))])] [] (spec_l12Rule.res a0 y) (spec_l12Rule.out a0 y) := by
  refine spec_intro (G52_ok.at tok []) (ct := []) Try.func133 rfl (by kernel_rfl) (by kernel_rfl) rfl ?_
  repeat' first
    | ((with_reducible refine eqg ?_); exact rfl)
    | ((with_reducible refine KOb.mk ?_); kernel_rfl)
    | ((with_reducible intro h); (repeat (first | replace H := grd_k H | replace H := out_step H (by assumption))); first | replace H := cond_t h H | replace H := cond_f h H | exact absurd h (by decide) | skip)
    | ((with_reducible refine Ob.mk ?_); first | (with_reducible rfl) | (first | ((repeat (first | (with_reducible exact grd_p H) | (replace H := grd_k H) | (replace H := out_step H (by assumption)))); done) | rfl | ((repeat (first | exact grd_p H | replace H := grd_k H | replace H := out_step H (by assumption))); done) | ((repeat (first | exact grd_p H | (have hp := grd_p H; exact hp) | replace H := grd_k H | replace H := out_step H (by assumption) | (replace H := bind_some H; obtain ⟨_, _, H⟩ := H))); done) | (repeat (first | exact grd_p H | replace H := grd_k H | replace H := out_step H (by assumption)))))
    | (with_reducible exact True.intro)
    | ((conv => whnf); first
        | (with_reducible refine And.intro ?_ ?_)
        | (with_reducible exact True.intro)
        | ((with_reducible refine Ob.mk ?_); first | (with_reducible rfl) | (first | ((repeat (first | (with_reducible exact grd_p H) | (replace H := grd_k H) | (replace H := out_step H (by assumption)))); done) | rfl | ((repeat (first | exact grd_p H | replace H := grd_k H | replace H := out_step H (by assumption))); done) | ((repeat (first | exact grd_p H | (have hp := grd_p H; exact hp) | replace H := grd_k H | replace H := out_step H (by assumption) | (replace H := bind_some H; obtain ⟨_, _, H⟩ := H))); done) | (repeat (first | exact grd_p H | replace H := grd_k H | replace H := out_step H (by assumption)))))
        | ((with_reducible refine CallW.mk ?_); (repeat (first | replace H := grd_k H | replace H := out_step H (by assumption))); replace H := bind_some H; obtain ⟨y, hy, H⟩ := H; first | ((with_reducible have hz : spec_l1In _ _ _ = some y := hy); clear hz; refine Exists.intro _ (Exists.intro _ ⟨spec_l1In.call hy ?_, rfl, rfl, ?_⟩)))
        | ((with_reducible refine fin_mk ?_); (repeat (first | replace H := grd_k H | replace H := out_step H (by assumption))); have H := Option.some.inj H; subst H))
    | constructor
def G53 : Env := G52.add 133 [] spec_l12Rule.S
theorem G53_ok : EnvOk Try.prog G53 := G52_ok.add ent_133 fun ar h r h1 ⟨a0, y, hy, e1, e2, e3, e4⟩ => by
  subst e3 e4; exact (spec_l12Rule.spec a0 y hy).le e1 e2
attribute [local irreducible] spec_l12Rule

noncomputable def spec_GreatestFree (a0 : WindRule) : Option (Int × Bool) :=
  ((spec_l12Rule (a0.1, a0.2.1, a0.2.2.1, a0.2.2.2.1, ())).bind fun y1 => (cond (!y1) ((some ((0 : Int), false))) ((some ((w64 (a0.1 - (1 : Int))), true)))))
def spec_GreatestFree.res (_ : WindRule) (y : Int × Bool) : AV := (.tup [(.v (.int .i64 y.1)), (.bl y.2)])
def spec_GreatestFree.out (_ : WindRule) (_ : Int × Bool) : List (Option LB) := []
def spec_GreatestFree.S (ar : List AV) (h : List (Option LB)) (r : AV) (h1 : List (Option LB)) : Prop := ∃ a0 y, spec_GreatestFree a0 = some y ∧ leL ar [(.agg [(.v (.int .i64 a0.1)), (.v (.int .i64 a0.2.1)), (.v (.int .i64 a0.2.2.1)), (.v (.int .i64 a0.2.2.2.1))])] ∧ leH h [] ∧ r = spec_GreatestFree.res a0 y ∧ h1 = spec_GreatestFree.out a0 y
theorem spec_GreatestFree.call {ar : List AV} {h : List (Option LB)} {a0 : WindRule} {y : Int × Bool} (H : spec_GreatestFree a0 = some y) (h0 : leLk ar [(.agg [(.v (.int .i64 a0.1)), (.v (.int .i64 a0.2.1)), (.v (.int .i64 a0.2.2.1)), (.v (.int .i64 a0.2.2.2.1))])] (leHk h [])) : spec_GreatestFree.S ar h (spec_GreatestFree.res a0 y) (spec_GreatestFree.out a0 y) := ⟨a0, y, H, (args_ok h0).1, (args_ok h0).2, rfl, rfl⟩
set_option maxHeartbeats 100000000 in
set_option maxRecDepth 100000 in
theorem spec_GreatestFree.spec (a0 : WindRule) (y : Int × Bool) (H : spec_GreatestFree a0 = some y) : Spec Try.prog 73 [(.agg [(.v (.int .i64 a0.1)), (.v (.int .i64 a0.2.1)), (.v (.int .i64 a0.2.2.1)), (.v (.int .i64 a0.2.2.2.1))])] [] (spec_GreatestFree.res a0 y) (spec_GreatestFree.out a0 y) := by
  refine spec_intro (G53_ok.at tok []) (ct := []) Try.func73 rfl (by kernel_rfl) (by kernel_rfl) rfl ?_
  repeat' first
    | ((with_reducible refine eqg ?_); exact rfl)
    | ((with_reducible refine KOb.mk ?_); kernel_rfl)
    | ((with_reducible intro h); (repeat (first | replace H := grd_k H | replace H := out_step H (by assumption))); first | replace H := cond_t h H | replace H := cond_f h H | exact absurd h (by decide) | skip)
    | ((with_reducible refine Ob.mk ?_); first | (with_reducible rfl) | (first | ((repeat (first | (with_reducible exact grd_p H) | (replace H := grd_k H) | (replace H := out_step H (by assumption)))); done) | rfl | ((repeat (first | exact grd_p H | replace H := grd_k H | replace H := out_step H (by assumption))); done) | ((repeat (first | exact grd_p H | (have hp := grd_p H; exact hp) | replace H := grd_k H | replace H := out_step H (by assumption) | (replace H := bind_some H; obtain ⟨_, _, H⟩ := H))); done) | (repeat (first | exact grd_p H | replace H := grd_k H | replace H := out_step H (by assumption)))))
    | (with_reducible exact True.intro)
    | ((conv => whnf); first
        | (with_reducible refine And.intro ?_ ?_)
        | (with_reducible exact True.intro)
        | ((with_reducible refine Ob.mk ?_); first | (with_reducible rfl) | (first | ((repeat (first | (with_reducible exact grd_p H) | (replace H := grd_k H) | (replace H := out_step H (by assumption)))); done) | rfl | ((repeat (first | exact grd_p H | replace H := grd_k H | replace H := out_step H (by assumption))); done) | ((repeat (first | exact grd_p H | (have hp := grd_p H; exact hp) | replace H := grd_k H | replace H := out_step H (by assumption) | (replace H := bind_some H; obtain ⟨_, _, H⟩ := H))); done) | (repeat (first | exact grd_p H | replace H := grd_k H | replace H := out_step H (by assumption)))))
        | ((with_reducible refine CallW.mk ?_); (repeat (first | replace H := grd_k H | replace H := out_step H (by assumption))); replace H := bind_some H; obtain ⟨y, hy, H⟩ := H; first | ((with_reducible have hz : spec_l12Rule _ = some y := hy); clear hz; refine Exists.intro _ (Exists.intro _ ⟨spec_l12Rule.call hy ?_, rfl, rfl, ?_⟩)))
        | ((with_reducible refine fin_mk ?_); (repeat (first | replace H := grd_k H | replace H := out_step H (by assumption))); have H := Option.some.inj H; subst H))
    | constructor
def G54 : Env := G53.add 73 [] spec_GreatestFree.S
theorem G54_ok : EnvOk Try.prog G54 := G53_ok.add ent_73 fun ar h r h1 ⟨a0, y, hy, e1, e2, e3, e4⟩ => by
  subst e3 e4; exact (spec_GreatestFree.spec a0 y hy).le e1 e2
attribute [local irreducible] spec_GreatestFree

noncomputable def impl_windOk (a0 : WindRule) (a1 : WindState) : Option (Bool) :=
  ((impl_IsWindRule (a0.1, a0.2.1, a0.2.2.1, a0.2.2.2.1, ())).bind fun y1 => (cond y1 ((impl_within a1.1 (0 : Int) (2 : Int)).bind fun y2 => (cond y2 ((impl_within a1.2.1 (0 : Int) (w64 (a0.2.2.2.1 - (1 : Int)))).bind fun y3 => (cond y3 (cond (!decide (a1.1 = (0 : Int))) ((some true)) ((some (decide (a1.2.1 = (0 : Int)))))) ((some false)))) ((some false)))) ((some false))))
def impl_windOk.res (_ : WindRule) (_ : WindState) (y : Bool) : AV := (.bl y)
def impl_windOk.out (_ : WindRule) (_ : WindState) (_ : Bool) : List (Option LB) := []
def impl_windOk.S (ar : List AV) (h : List (Option LB)) (r : AV) (h1 : List (Option LB)) : Prop := ∃ a0 a1 y, impl_windOk a0 a1 = some y ∧ leL ar [(.agg [(.v (.int .i64 a0.1)), (.v (.int .i64 a0.2.1)), (.v (.int .i64 a0.2.2.1)), (.v (.int .i64 a0.2.2.2.1))]), (.agg [(.v (.int .i64 a1.1)), (.v (.int .i64 a1.2.1))])] ∧ leH h [] ∧ r = impl_windOk.res a0 a1 y ∧ h1 = impl_windOk.out a0 a1 y
theorem impl_windOk.call {ar : List AV} {h : List (Option LB)} {a0 : WindRule} {a1 : WindState} {y : Bool} (H : impl_windOk a0 a1 = some y) (h0 : leLk ar [(.agg [(.v (.int .i64 a0.1)), (.v (.int .i64 a0.2.1)), (.v (.int .i64 a0.2.2.1)), (.v (.int .i64 a0.2.2.2.1))]), (.agg [(.v (.int .i64 a1.1)), (.v (.int .i64 a1.2.1))])] (leHk h [])) : impl_windOk.S ar h (impl_windOk.res a0 a1 y) (impl_windOk.out a0 a1 y) := ⟨a0, a1, y, H, (args_ok h0).1, (args_ok h0).2, rfl, rfl⟩
set_option maxHeartbeats 100000000 in
set_option maxRecDepth 100000 in
theorem impl_windOk.spec (a0 : WindRule) (a1 : WindState) (y : Bool) (H : impl_windOk a0 a1 = some y) : Spec Try.prog 134 [(.agg [(.v (.int .i64 a0.1)), (.v (.int .i64 a0.2.1)), (.v (.int .i64 a0.2.2.1)), (.v (.int .i64 a0.2.2.2.1))]), (.agg [(.v (.int .i64 a1.1)), (.v (.int .i64 a1.2.1))])] [] (impl_windOk.res a0 a1 y) (impl_windOk.out a0 a1 y) := by
  refine spec_intro (G54_ok.at tok []) (ct := []) Try.func134 rfl (by kernel_rfl) (by kernel_rfl) rfl ?_
  repeat' first
    | ((with_reducible refine eqg ?_); exact rfl)
    | ((with_reducible refine KOb.mk ?_); kernel_rfl)
    | ((with_reducible intro h); (repeat (first | replace H := grd_k H | replace H := out_step H (by assumption))); first | replace H := cond_t h H | replace H := cond_f h H | exact absurd h (by decide) | skip)
    | ((with_reducible refine Ob.mk ?_); first | (with_reducible rfl) | (first | ((repeat (first | (with_reducible exact grd_p H) | (replace H := grd_k H) | (replace H := out_step H (by assumption)))); done) | rfl | ((repeat (first | exact grd_p H | replace H := grd_k H | replace H := out_step H (by assumption))); done) | ((repeat (first | exact grd_p H | (have hp := grd_p H; exact hp) | replace H := grd_k H | replace H := out_step H (by assumption) | (replace H := bind_some H; obtain ⟨_, _, H⟩ := H))); done) | (repeat (first | exact grd_p H | replace H := grd_k H | replace H := out_step H (by assumption)))))
    | (with_reducible exact True.intro)
    | ((conv => whnf); first
        | (with_reducible refine And.intro ?_ ?_)
        | (with_reducible exact True.intro)
        | ((with_reducible refine Ob.mk ?_); first | (with_reducible rfl) | (first | ((repeat (first | (with_reducible exact grd_p H) | (replace H := grd_k H) | (replace H := out_step H (by assumption)))); done) | rfl | ((repeat (first | exact grd_p H | replace H := grd_k H | replace H := out_step H (by assumption))); done) | ((repeat (first | exact grd_p H | (have hp := grd_p H; exact hp) | replace H := grd_k H | replace H := out_step H (by assumption) | (replace H := bind_some H; obtain ⟨_, _, H⟩ := H))); done) | (repeat (first | exact grd_p H | replace H := grd_k H | replace H := out_step H (by assumption)))))
        | ((with_reducible refine CallW.mk ?_); (repeat (first | replace H := grd_k H | replace H := out_step H (by assumption))); replace H := bind_some H; obtain ⟨y, hy, H⟩ := H; first | ((with_reducible have hz : impl_IsWindRule _ = some y := hy); clear hz; refine Exists.intro _ (Exists.intro _ ⟨impl_IsWindRule.call hy ?_, rfl, rfl, ?_⟩)) | ((with_reducible have hz : impl_within _ _ _ = some y := hy); clear hz; refine Exists.intro _ (Exists.intro _ ⟨impl_within.call hy ?_, rfl, rfl, ?_⟩)))
        | ((with_reducible refine fin_mk ?_); (repeat (first | replace H := grd_k H | replace H := out_step H (by assumption))); have H := Option.some.inj H; subst H))
    | constructor
def G55 : Env := G54.add 134 [] impl_windOk.S
theorem G55_ok : EnvOk Try.prog G55 := G54_ok.add ent_134 fun ar h r h1 ⟨a0, a1, y, hy, e1, e2, e3, e4⟩ => by
  subst e3 e4; exact (impl_windOk.spec a0 a1 y hy).le e1 e2
attribute [local irreducible] impl_windOk

noncomputable def impl_WindRule_next (a0 : WindRule) (a1 : WindState) (a2 : Int) : Option (WindState) :=
  (cond (decide (a0.2.1 ≤ a2)) ((some ((2 : Int), (0 : Int), ()))) (cond (decide (a1.1 = (0 : Int))) (cond (decide (a0.1 ≤ a2)) ((some ((1 : Int), (0 : Int), ()))) (cond (decide (a1.1 = (0 : Int))) ((some (a1.1, a1.2.1, ()))) ((cond (decide (a1.1 = (2 : Int))) ((some a0.2.1)) ((some a0.1))).bind fun z1 => (cond (decide ((w64 (z1 - a0.2.2.1)) ≤ a2)) ((some (a1.1, (0 : Int), ()))) (cond (decide ((w64 (a1.2.1 + (1 : Int))) = a0.2.2.2.1)) ((some ((w64 (a1.1 - (1 : Int))), (0 : Int), ()))) ((some (a1.1, (w64 (a1.2.1 + (1 : Int))), ())))))))) (cond (decide (a1.1 = (0 : Int))) ((some (a1.1, a1.2.1, ()))) ((cond (decide (a1.1 = (2 : Int))) ((some a0.2.1)) ((some a0.1))).bind fun z2 => (cond (decide ((w64 (z2 - a0.2.2.1)) ≤ a2)) ((some (a1.1, (0 : Int), ()))) (cond (decide ((w64 (a1.2.1 + (1 : Int))) = a0.2.2.2.1)) ((some ((w64 (a1.1 - (1 : Int))), (0 : Int), ()))) ((some (a1.1, (w64 (a1.2.1 + (1 : Int))), ())))))))))
def impl_WindRule_next.res (_ : WindRule) (_ : WindState) (_ : Int) (y : WindState) : AV := (.agg [(.v (.int .i64 y.1)), (.v (.int .i64 y.2.1))])
def impl_WindRule_next.out (_ : WindRule) (_ : WindState) (_ : Int) (_ : WindState) : List (Option LB) := []
def impl_WindRule_next.S (ar : List AV) (h : List (Option LB)) (r : AV) (h1 : List (Option LB)) : Prop := ∃ a0 a1 a2 y, impl_WindRule_next a0 a1 a2 = some y ∧ leL ar [(.agg [(.v (.int .i64 a0.1)), (.v (.int .i64 a0.2.1)), (.v (.int .i64 a0.2.2.1)), (.v (.int .i64 a0.2.2.2.1))]), (.agg [(.v (.int .i64 a1.1)), (.v (.int .i64 a1.2.1))]), (.v (.int .i64 a2))] ∧ leH h [] ∧ r = impl_WindRule_next.res a0 a1 a2 y ∧ h1 = impl_WindRule_next.out a0 a1 a2 y
theorem impl_WindRule_next.call {ar : List AV} {h : List (Option LB)} {a0 : WindRule} {a1 : WindState} {a2 : Int} {y : WindState} (H : impl_WindRule_next a0 a1 a2 = some y) (h0 : leLk ar [(.agg [(.v (.int .i64 a0.1)), (.v (.int .i64 a0.2.1)), (.v (.int .i64 a0.2.2.1)), (.v (.int .i64 a0.2.2.2.1))]), (.agg [(.v (.int .i64 a1.1)), (.v (.int .i64 a1.2.1))]), (.v (.int .i64 a2))] (leHk h [])) : impl_WindRule_next.S ar h (impl_WindRule_next.res a0 a1 a2 y) (impl_WindRule_next.out a0 a1 a2 y) := ⟨a0, a1, a2, y, H, (args_ok h0).1, (args_ok h0).2, rfl, rfl⟩
set_option maxHeartbeats 100000000 in
set_option maxRecDepth 100000 in
theorem impl_WindRule_next.spec (a0 : WindRule) (a1 : WindState) (a2 : Int) (y : WindState) (H : impl_WindRule_next a0 a1 a2 = some y) : Spec Try.prog 135 [(.agg [(.v (.int .i64 a0.1)), (.v (.int .i64 a0.2.1)), (.v (.int .i64 a0.2.2.1)), (.v (.int .i64 a0.2.2.2.1))]), (.agg [(.v (.int .i64 a1.1)), (.v (.int .i64 a1.2.1))]), (.v (.int .i64 a2))] [] (impl_WindRule_next.res a0 a1 a2 y) (impl_WindRule_next.out a0 a1 a2 y) := by
  refine spec_intro (G55_ok.at tok []) (ct := [(10, none), (4, some [2, 3, 4, 6, 14]), (9, some [2, 3, 4, 6, 7, 34]), (14, some [4, 6, 54])]) Try.func135 rfl (by kernel_rfl) (by kernel_rfl) rfl ?_
  repeat' first
    | ((with_reducible refine eqg ?_); exact rfl)
    | ((with_reducible refine KOb.mk ?_); kernel_rfl)
    | ((with_reducible intro h); (repeat (first | replace H := grd_k H | replace H := out_step H (by assumption))); first | replace H := cond_t h H | replace H := cond_f h H | exact absurd h (by decide) | skip)
    | ((with_reducible refine Ob.mk ?_); first | (with_reducible rfl) | (first | ((repeat (first | (with_reducible exact grd_p H) | (replace H := grd_k H) | (replace H := out_step H (by assumption)))); done) | rfl | ((repeat (first | exact grd_p H | replace H := grd_k H | replace H := out_step H (by assumption))); done) | ((repeat (first | exact grd_p H | (have hp := grd_p H; exact hp) | replace H := grd_k H | replace H := out_step H (by assumption) | (replace H := bind_some H; obtain ⟨_, _, H⟩ := H))); done) | (repeat (first | exact grd_p H | replace H := grd_k H | replace H := out_step H (by assumption)))))
    | (with_reducible exact True.intro)
    | ((conv => whnf); first
        | (with_reducible refine And.intro ?_ ?_)
        | (with_reducible exact True.intro)
        | ((with_reducible refine Ob.mk ?_); first | (with_reducible rfl) | (first | ((repeat (first | (with_reducible exact grd_p H) | (replace H := grd_k H) | (replace H := out_step H (by assumption)))); done) | rfl | ((repeat (first | exact grd_p H | replace H := grd_k H | replace H := out_step H (by assumption))); done) | ((repeat (first | exact grd_p H | (have hp := grd_p H; exact hp) | replace H := grd_k H | replace H := out_step H (by assumption) | (replace H := bind_some H; obtain ⟨_, _, H⟩ := H))); done) | (repeat (first | exact grd_p H | replace H := grd_k H | replace H := out_step H (by assumption)))))
        | ((with_reducible refine cutAt (id := 10) ?_); (repeat (first | replace H := grd_k H | replace H := out_step H (by assumption))); first | (replace H := bind_some H; obtain ⟨z, hz, H⟩ := H; refine CutC.mk (id := 10) ⟨sl [(2, (.v (.int .i64 a2))), (3, (.loc 0 0 0)), (4, (.loc 1 0 0)), (6, (.loc 2 0 0)), (7, (.v (.int .i64 z)))], [some (.box 93 [(.v (.int .i64 a0.1)), (.v (.int .i64 a0.2.1)), (.v (.int .i64 a0.2.2.1)), (.v (.int .i64 a0.2.2.2.1))]), some (.box 97 [(.v (.int .i64 a1.1)), (.v (.int .i64 a1.2.1))]), some (.box 97 [(.v (.int .i64 (0 : Int))), (.v (.int .i64 (0 : Int)))])]⟩ ?_ ?_; (replace H := hz)))
        | ((repeat (first | replace H := grd_k H | replace H := out_step H (by assumption))); have H := Option.some.inj H; subst H; with_reducible refine sub_auto ?_)
        | ((with_reducible refine fin_mk ?_); (repeat (first | replace H := grd_k H | replace H := out_step H (by assumption))); have H := Option.some.inj H; subst H))
    | constructor
def G56 : Env := G55.add 135 [] impl_WindRule_next.S
theorem G56_ok : EnvOk Try.prog G56 := G55_ok.add ent_135 fun ar h r h1 ⟨a0, a1, a2, y, hy, e1, e2, e3, e4⟩ => by
  subst e3 e4; exact (impl_WindRule_next.spec a0 a1 a2 y hy).le e1 e2
attribute [local irreducible] impl_WindRule_next

noncomputable def impl_NextWind (a0 : WindRule) (a1 : WindState) (a2 : Int) : Option (WindState × Bool) :=
  ((impl_windOk (a0.1, a0.2.1, a0.2.2.1, a0.2.2.2.1, ()) (a1.1, a1.2.1, ())).bind fun y1 => (cond (!y1) ((some (((0 : Int), (0 : Int), ()), false))) ((impl_within a2 (0 : Int) (60 : Int)).bind fun y2 => (cond (!y2) ((some (((0 : Int), (0 : Int), ()), false))) ((impl_WindRule_next (a0.1, a0.2.1, a0.2.2.1, a0.2.2.2.1, ()) (a1.1, a1.2.1, ()) a2).bind fun y3 => (some ((y3.1, y3.2.1, ()), true)))))))
def impl_NextWind.res (_ : WindRule) (_ : WindState) (_ : Int) (y : WindState × Bool) : AV := (.tup [(.agg [(.v (.int .i64 y.1.1)), (.v (.int .i64 y.1.2.1))]), (.bl y.2)])
def impl_NextWind.out (_ : WindRule) (_ : WindState) (_ : Int) (_ : WindState × Bool) : List (Option LB) := []
def impl_NextWind.S (ar : List AV) (h : List (Option LB)) (r : AV) (h1 : List (Option LB)) : Prop := ∃ a0 a1 a2 y, impl_NextWind a0 a1 a2 = some y ∧ leL ar [(.agg [(.v (.int .i64 a0.1)), (.v (.int .i64 a0.2.1)), (.v (.int .i64 a0.2.2.1)), (.v (.int .i64 a0.2.2.2.1))]), (.agg [(.v (.int .i64 a1.1)), (.v (.int .i64 a1.2.1))]), (.v (.int .i64 a2))] ∧ leH h [] ∧ r = impl_NextWind.res a0 a1 a2 y ∧ h1 = impl_NextWind.out a0 a1 a2 y
theorem impl_NextWind.call {ar : List AV} {h : List (Option LB)} {a0 : WindRule} {a1 : WindState} {a2 : Int} {y : WindState × Bool} (H : impl_NextWind a0 a1 a2 = some y) (h0 : leLk ar [(.agg [(.v (.int .i64 a0.1)), (.v (.int .i64 a0.2.1)), (.v (.int .i64 a0.2.2.1)), (.v (.int .i64 a0.2.2.2.1))]), (.agg [(.v (.int .i64 a1.1)), (.v (.int .i64 a1.2.1))]), (.v (.int .i64 a2))] (leHk h [])) : impl_NextWind.S ar h (impl_NextWind.res a0 a1 a2 y) (impl_NextWind.out a0 a1 a2 y) := ⟨a0, a1, a2, y, H, (args_ok h0).1, (args_ok h0).2, rfl, rfl⟩
set_option maxHeartbeats 100000000 in
set_option maxRecDepth 100000 in
theorem impl_NextWind.spec (a0 : WindRule) (a1 : WindState) (a2 : Int) (y : WindState × Bool) (H : impl_NextWind a0 a1 a2 = some y) : Spec Try.prog 74 [(.agg [(.v (.int .i64 a0.1)), (.v (.int .i64 a0.2.1)), (.v (.int .i64 a0.2.2.1)), (.v (.int .i64 a0.2.2.2.1))]), (.agg [(.v (.int .i64 a1.1)), (.v (.int .i64 a1.2.1))]), (.v (.int .i64 a2))] [] (impl_NextWind.res a0 a1 a2 y) (impl_NextWind.out a0 a1 a2 y) := by
  refine spec_intro (G56_ok.at tok []) (ct := [(3, some [2, 3, 4, 6])]) Try.func74 rfl (by kernel_rfl) (by kernel_rfl) rfl ?_
  repeat' first
    | ((with_reducible refine eqg ?_); exact rfl)
    | ((with_reducible refine KOb.mk ?_); kernel_rfl)
    | ((with_reducible intro h); (repeat (first | replace H := grd_k H | replace H := out_step H (by assumption))); first | replace H := cond_t h H | replace H := cond_f h H | exact absurd h (by decide) | skip)
    | ((with_reducible refine Ob.mk ?_); first | (with_reducible rfl) | (first | ((repeat (first | (with_reducible exact grd_p H) | (replace H := grd_k H) | (replace H := out_step H (by assumption)))); done) | rfl | ((repeat (first | exact grd_p H | replace H := grd_k H | replace H := out_step H (by assumption))); done) | ((repeat (first | exact grd_p H | (have hp := grd_p H; exact hp) | replace H := grd_k H | replace H := out_step H (by assumption) | (replace H := bind_some H; obtain ⟨_, _, H⟩ := H))); done) | (repeat (first | exact grd_p H | replace H := grd_k H | replace H := out_step H (by assumption)))))
    | (with_reducible exact True.intro)
    | ((conv => whnf); first
        | (with_reducible refine And.intro ?_ ?_)
        | (with_reducible exact True.intro)
        | ((with_reducible refine Ob.mk ?_); first | (with_reducible rfl) | (first | ((repeat (first | (with_reducible exact grd_p H) | (replace H := grd_k H) | (replace H := out_step H (by assumption)))); done) | rfl | ((repeat (first | exact grd_p H | replace H := grd_k H | replace H := out_step H (by assumption))); done) | ((repeat (first | exact grd_p H | (have hp := grd_p H; exact hp) | replace H := grd_k H | replace H := out_step H (by assumption) | (replace H := bind_some H; obtain ⟨_, _, H⟩ := H))); done) | (repeat (first | exact grd_p H | replace H := grd_k H | replace H := out_step H (by assumption)))))
        | ((with_reducible refine CallW.mk ?_); (repeat (first | replace H := grd_k H | replace H := out_step H (by assumption))); replace H := bind_some H; obtain ⟨y, hy, H⟩ := H; first | ((with_reducible have hz : impl_windOk _ _ = some y := hy); clear hz; refine Exists.intro _ (Exists.intro _ ⟨impl_windOk.call hy ?_, rfl, rfl, ?_⟩)) | ((with_reducible have hz : impl_within _ _ _ = some y := hy); clear hz; refine Exists.intro _ (Exists.intro _ ⟨impl_within.call hy ?_, rfl, rfl, ?_⟩)) | ((with_reducible have hz : impl_WindRule_next _ _ _ = some y := hy); clear hz; refine Exists.intro _ (Exists.intro _ ⟨impl_WindRule_next.call hy ?_, rfl, rfl, ?_⟩)))
        | ((with_reducible refine fin_mk ?_); (repeat (first | replace H := grd_k H | replace H := out_step H (by assumption))); have H := Option.some.inj H; subst H))
    | constructor
def G57 : Env := G56.add 74 [] impl_NextWind.S
theorem G57_ok : EnvOk Try.prog G57 := G56_ok.add ent_74 fun ar h r h1 ⟨a0, a1, a2, y, hy, e1, e2, e3, e4⟩ => by
  subst e3 e4; exact (impl_NextWind.spec a0 a1 a2 y hy).le e1 e2
attribute [local irreducible] impl_NextWind

noncomputable def spec_l1Cur_votes_loop1  (v13 : Int) (v14 : (List Int)) (v15 : Int) (v16 : Int) (v17 : (List Int)) : Option (Lp (Int × (List Int) × Int × Int × (List Int)) (((List Int) × Int × Int × (List Int)))) :=
  (cond (decide ((0 : Int) < v13)) ((spec_l1Cur_among (v14, v15, v16, ()) [(0 : Int), (3 : Int), (5 : Int), (8 : Int), (9 : Int), (10 : Int), (11 : Int), (12 : Int), (14 : Int), (15 : Int), (17 : Int), (18 : Int), (20 : Int), (30 : Int)]).bind fun y18 => (grd (v17.length + [y18.1].length ≤ 140737488355328 / 8 ∧ v17.length + [y18.1].length ≤ 140737488355328) (some (.go ((w64 (v13 - (1 : Int))), y18.2.1, y18.2.2.1, y18.2.2.2.1, (v17 ++ [y18.1])))))) ((some (.out (v14, v15, v16, v17)))))
noncomputable def spec_l1Cur_votes_loop2  (v27 : (List Int)) (v28 : Int) (v29 : Int) (v30 : (List Int)) : Option (Lp ((List Int) × Int × Int × (List Int)) (((List Int) × Int × Int × (List Int)))) :=
  ((spec_l1Cur_pick (v27, v28, v29, ()) (2 : Int)).bind fun y31 => (cond (decide ((v30.length : Int) < (w64 ((50 : Int) + y31.1)))) (grd (v30.length + [(7 : Int)].length ≤ 140737488355328 / 8 ∧ v30.length + [(7 : Int)].length ≤ 140737488355328) (some (.go (y31.2.1, y31.2.2.1, y31.2.2.2.1, (v30 ++ [(7 : Int)]))))) ((some (.out (y31.2.1, y31.2.2.1, y31.2.2.2.1, v30))))))
noncomputable def spec_l1Cur_votes (a0 : l1Cur) : Option ((List Int) × l1Cur) :=
  ((spec_l1Cur_pick (a0.1, a0.2.1, a0.2.2.1, ()) (14 : Int)).bind fun y1 => ((iter (fun s => spec_l1Cur_votes_loop1 s.1 s.2.1 s.2.2.1 s.2.2.2.1 s.2.2.2.2) (y1.1, y1.2.1, y1.2.2.1, y1.2.2.2.1, ([] : List Int))).bind (fun r19 => ((spec_l1Cur_pick (r19.1, r19.2.1, r19.2.2.1, ()) (32 : Int)).bind fun y20 => (cond (decide (y20.1 = (0 : Int))) ((spec_l1Cur_among (y20.2.1, y20.2.2.1, y20.2.2.2.1, ()) [((-1) : Int), (61 : Int)]).bind fun y21 => (grd (r19.2.2.2.length + [y21.1].length ≤ 140737488355328 / 8 ∧ r19.2.2.2.length + [y21.1].length ≤ 140737488355328) ((some ((r19.2.2.2 ++ [y21.1]), (y21.2.1, y21.2.2.1, y21.2.2.2.1, ())))))) (cond (decide (y20.1 = (1 : Int))) ((iter (fun s => spec_l1Cur_votes_loop2 s.1 s.2.1 s.2.2.1 s.2.2.2) (y20.2.1, y20.2.2.1, y20.2.2.2.1, r19.2.2.2)).bind (fun r32 => (some (r32.2.2.2, (r32.1, r32.2.1, r32.2.2.1, ()))))) ((some (r19.2.2.2, (y20.2.1, y20.2.2.1, y20.2.2.2.1, ()))))))))))
def spec_l1Cur_votes.res (_ : l1Cur) (_ : (List Int) × l1Cur) : AV := (.own 1)
def spec_l1Cur_votes.out (_ : l1Cur) (y : (List Int) × l1Cur) : List (Option LB) := [some (.box 115 [(.tree (.int .u8) y.2.1), (.v (.int .i64 y.2.2.1)), (.v (.int .u64 y.2.2.2.1))]), some (.arr 3 (.int .i64) y.1)]
def spec_l1Cur_votes.S (ar : List AV) (h : List (Option LB)) (r : AV) (h1 : List (Option LB)) : Prop := ∃ a0 y, spec_l1Cur_votes a0 = some y ∧ leL ar [(.loc 0 0 0)] ∧ leH h [some (.box 115 [(.tree (.int .u8) a0.1), (.v (.int .i64 a0.2.1)), (.v (.int .u64 a0.2.2.1))])] ∧ r = spec_l1Cur_votes.res a0 y ∧ h1 = spec_l1Cur_votes.out a0 y
theorem spec_l1Cur_votes.call {ar : List AV} {h : List (Option LB)} {a0 : l1Cur} {y : (List Int) × l1Cur} (H : spec_l1Cur_votes a0 = some y) (h0 : leLk ar [(.loc 0 0 0)] (leHk h [some (.box 115 [(.tree (.int .u8) a0.1), (.v (.int .i64 a0.2.1)), (.v (.int .u64 a0.2.2.1))])])) : spec_l1Cur_votes.S ar h (spec_l1Cur_votes.res a0 y) (spec_l1Cur_votes.out a0 y) := ⟨a0, y, H, (args_ok h0).1, (args_ok h0).2, rfl, rfl⟩
set_option maxHeartbeats 100000000 in
set_option maxRecDepth 100000 in
theorem spec_l1Cur_votes.spec (a0 : l1Cur) (y : (List Int) × l1Cur) (H : spec_l1Cur_votes a0 = some y) : Spec Try.prog 137 [(.loc 0 0 0)] [some (.box 115 [(.tree (.int .u8) a0.1), (.v (.int .i64 a0.2.1)), (.v (.int .u64 a0.2.2.1))])] (spec_l1Cur_votes.res a0 y) (spec_l1Cur_votes.out a0 y) := by
  refine spec_intro (G57_ok.at tok []) (ct := [(10, some [0, 3, 28]), (12, some [3])]) Try.func137 rfl (by kernel_rfl) (by kernel_rfl) rfl ?_
  repeat' first
    | ((with_reducible refine eqg ?_); exact rfl)
    | ((with_reducible refine KOb.mk ?_); kernel_rfl)
    | ((with_reducible intro h); (repeat (first | replace H := grd_k H | replace H := out_step H (by assumption))); first | replace H := cond_t h H | replace H := cond_f h H | exact absurd h (by decide) | skip)
    | ((with_reducible refine Ob.mk ?_); first | (with_reducible rfl) | (first | ((repeat (first | (with_reducible exact grd_p H) | (replace H := grd_k H) | (replace H := out_step H (by assumption)))); done) | rfl | ((repeat (first | exact grd_p H | replace H := grd_k H | replace H := out_step H (by assumption))); done) | ((repeat (first | exact grd_p H | (have hp := grd_p H; exact hp) | replace H := grd_k H | replace H := out_step H (by assumption) | (replace H := bind_some H; obtain ⟨_, _, H⟩ := H))); done) | (repeat (first | exact grd_p H | replace H := grd_k H | replace H := out_step H (by assumption)))))
    | (with_reducible exact True.intro)
    | ((conv => whnf); first
        | (with_reducible refine And.intro ?_ ?_)
        | (with_reducible exact True.intro)
        | ((with_reducible refine Ob.mk ?_); first | (with_reducible rfl) | (first | ((repeat (first | (with_reducible exact grd_p H) | (replace H := grd_k H) | (replace H := out_step H (by assumption)))); done) | rfl | ((repeat (first | exact grd_p H | replace H := grd_k H | replace H := out_step H (by assumption))); done) | ((repeat (first | exact grd_p H | (have hp := grd_p H; exact hp) | replace H := grd_k H | replace H := out_step H (by assumption) | (replace H := bind_some H; obtain ⟨_, _, H⟩ := H))); done) | (repeat (first | exact grd_p H | replace H := grd_k H | replace H := out_step H (by assumption)))))
        | ((with_reducible refine CallW.mk ?_); (repeat (first | replace H := grd_k H | replace H := out_step H (by assumption))); replace H := bind_some H; obtain ⟨y, hy, H⟩ := H; first | ((with_reducible have hz : spec_l1Cur_pick _ _ = some y := hy); clear hz; refine Exists.intro _ (Exists.intro _ ⟨spec_l1Cur_pick.call hy ?_, rfl, rfl, ?_⟩)) | ((with_reducible have hz : spec_l1Cur_among _ _ = some y := hy); clear hz; refine Exists.intro _ (Exists.intro _ ⟨spec_l1Cur_among.call hy ?_, rfl, rfl, ?_⟩)))
        | ((repeat (first | replace H := grd_k H | replace H := out_step H (by assumption))); refine loop_iter (G57_ok.at tok []) (ct := [(10, some [0, 3, 28]), (12, some [3])]) (F := (fun s1 : Int × (List Int) × Int × Int × (List Int) => ⟨sl [(0, (.loc 0 0 0)), (3, (.own 1)), (4, (.v (.int .i64 s1.1)))], [some (.box 115 [(.tree (.int .u8) s1.2.1), (.v (.int .i64 s1.2.2.1)), (.v (.int .u64 s1.2.2.2.1))]), some (.arr 3 (.int .i64) s1.2.2.2.2)]⟩)) (step := (fun s : Int × (List Int) × Int × Int × (List Int) => spec_l1Cur_votes_loop1 s.1 s.2.1 s.2.2.1 s.2.2.2.1 s.2.2.2.2)) _ H (by kernel_rfl) (sub_auto ?_) ?_; rotate_left; (intro s1 r v hr H); rotate_right)
        | ((repeat (first | replace H := grd_k H | replace H := out_step H (by assumption))); refine loop_iter (G57_ok.at tok []) (ct := [(10, some [0, 3, 28]), (12, some [3])]) (F := (fun s2 : (List Int) × Int × Int × (List Int) => ⟨sl [(0, (.loc 0 0 0)), (3, (.own 1))], [some (.box 115 [(.tree (.int .u8) s2.1), (.v (.int .i64 s2.2.1)), (.v (.int .u64 s2.2.2.1))]), some (.arr 3 (.int .i64) s2.2.2.2)]⟩)) (step := (fun s : (List Int) × Int × Int × (List Int) => spec_l1Cur_votes_loop2 s.1 s.2.1 s.2.2.1 s.2.2.2)) _ H (by kernel_rfl) (sub_auto ?_) ?_; rotate_left; (intro s2 r v hr H); rotate_right)
        | ((repeat (first | replace H := grd_k H | replace H := out_step H (by assumption))); refine again_step H (by assumption) (sub_auto ?_))
        | ((with_reducible refine fin_mk ?_); (repeat (first | replace H := grd_k H | replace H := out_step H (by assumption))); have H := Option.some.inj H; subst H))
    | constructor
def G58 : Env := G57.add 137 [true] spec_l1Cur_votes.S
theorem G58_ok : EnvOk Try.prog G58 := G57_ok.add ent_137 fun ar h r h1 ⟨a0, y, hy, e1, e2, e3, e4⟩ => by
  subst e3 e4; exact (spec_l1Cur_votes.spec a0 y hy).le e1 e2
attribute [local irreducible] spec_l1Cur_votes

noncomputable def spec_DrawCompareRules (a0 : (List Int)) : Option (WindRule × WindRule × (List Int)) :=
  ((spec_l1Cur_windRule (a0, (0 : Int), (0 : Int), ())).bind fun y1 => ((spec_l1Cur_windRule (y1.2.1, y1.2.2.1, y1.2.2.2.1, ())).bind fun y2 => ((spec_l1Cur_votes (y2.2.1, y2.2.2.1, y2.2.2.2.1, ())).bind fun y3 => (some ((y1.1.1, y1.1.2.1, y1.1.2.2.1, y1.1.2.2.2.1, ()), (y2.1.1, y2.1.2.1, y2.1.2.2.1, y2.1.2.2.2.1, ()), y3.1)))))
def spec_DrawCompareRules.res (_ : (List Int)) (y : WindRule × WindRule × (List Int)) : AV := (.tup [(.agg [(.v (.int .i64 y.1.1)), (.v (.int .i64 y.1.2.1)), (.v (.int .i64 y.1.2.2.1)), (.v (.int .i64 y.1.2.2.2.1))]), (.agg [(.v (.int .i64 y.2.1.1)), (.v (.int .i64 y.2.1.2.1)), (.v (.int .i64 y.2.1.2.2.1)), (.v (.int .i64 y.2.1.2.2.2.1))]), (.own 0)])
def spec_DrawCompareRules.out (_ : (List Int)) (y : WindRule × WindRule × (List Int)) : List (Option LB) := [some (.arr 3 (.int .i64) y.2.2)]
def spec_DrawCompareRules.S (ar : List AV) (h : List (Option LB)) (r : AV) (h1 : List (Option LB)) : Prop := ∃ a0 y, spec_DrawCompareRules a0 = some y ∧ leL ar [(.tree (.int .u8) a0)] ∧ leH h [] ∧ r = spec_DrawCompareRules.res a0 y ∧ h1 = spec_DrawCompareRules.out a0 y
theorem spec_DrawCompareRules.call {ar : List AV} {h : List (Option LB)} {a0 : (List Int)} {y : WindRule × WindRule × (List Int)} (H : spec_DrawCompareRules a0 = some y) (h0 : leLk ar [(.tree (.int .u8) a0)] (leHk h [])) : spec_DrawCompareRules.S ar h (spec_DrawCompareRules.res a0 y) (spec_DrawCompareRules.out a0 y) := ⟨a0, y, H, (args_ok h0).1, (args_ok h0).2, rfl, rfl⟩
set_option maxHeartbeats 100000000 in
set_option maxRecDepth 100000 in
theorem spec_DrawCompareRules.spec (a0 : (List Int)) (y : WindRule × WindRule × (List Int)) (H : spec_DrawCompareRules a0 = some y) : Spec Try.prog 75 [(.tree (.int .u8) a0)] [] (spec_DrawCompareRules.res a0 y) (spec_DrawCompareRules.out a0 y) := by
  refine spec_intro (G58_ok.at tok []) (ct := []) Try.func75 rfl (by kernel_rfl) (by kernel_rfl) rfl ?_
  repeat' first
    | ((with_reducible refine eqg ?_); exact rfl)
    | ((with_reducible refine KOb.mk ?_); kernel_rfl)
    | ((with_reducible intro h); (repeat (first | replace H := grd_k H | replace H := out_step H (by assumption))); first | replace H := cond_t h H | replace H := cond_f h H | exact absurd h (by decide) | skip)
    | ((with_reducible refine Ob.mk ?_); first | (with_reducible rfl) | (first | ((repeat (first | (with_reducible exact grd_p H) | (replace H := grd_k H) | (replace H := out_step H (by assumption)))); done) | rfl | ((repeat (first | exact grd_p H | replace H := grd_k H | replace H := out_step H (by assumption))); done) | ((repeat (first | exact grd_p H | (have hp := grd_p H; exact hp) | replace H := grd_k H | replace H := out_step H (by assumption) | (replace H := bind_some H; obtain ⟨_, _, H⟩ := H))); done) | (repeat (first | exact grd_p H | replace H := grd_k H | replace H := out_step H (by assumption)))))
    | (with_reducible exact True.intro)
    | ((conv => whnf); first
        | (with_reducible refine And.intro ?_ ?_)
        | (with_reducible exact True.intro)
        | ((with_reducible refine Ob.mk ?_); first | (with_reducible rfl) | (first | ((repeat (first | (with_reducible exact grd_p H) | (replace H := grd_k H) | (replace H := out_step H (by assumption)))); done) | rfl | ((repeat (first | exact grd_p H | replace H := grd_k H | replace H := out_step H (by assumption))); done) | ((repeat (first | exact grd_p H | (have hp := grd_p H; exact hp) | replace H := grd_k H | replace H := out_step H (by assumption) | (replace H := bind_some H; obtain ⟨_, _, H⟩ := H))); done) | (repeat (first | exact grd_p H | replace H := grd_k H | replace H := out_step H (by assumption)))))
        | ((with_reducible refine CallW.mk ?_); (repeat (first | replace H := grd_k H | replace H := out_step H (by assumption))); replace H := bind_some H; obtain ⟨y, hy, H⟩ := H; first | ((with_reducible have hz : spec_l1Cur_windRule _ = some y := hy); clear hz; refine Exists.intro _ (Exists.intro _ ⟨spec_l1Cur_windRule.call hy ?_, rfl, rfl, ?_⟩)) | ((with_reducible have hz : spec_l1Cur_votes _ = some y := hy); clear hz; refine Exists.intro _ (Exists.intro _ ⟨spec_l1Cur_votes.call hy ?_, rfl, rfl, ?_⟩)))
        | ((with_reducible refine fin_mk ?_); (repeat (first | replace H := grd_k H | replace H := out_step H (by assumption))); have H := Option.some.inj H; subst H))
    | constructor
def G59 : Env := G58.add 75 [] spec_DrawCompareRules.S
theorem G59_ok : EnvOk Try.prog G59 := G58_ok.add ent_75 fun ar h r h1 ⟨a0, y, hy, e1, e2, e3, e4⟩ => by
  subst e3 e4; exact (spec_DrawCompareRules.spec a0 y hy).le e1 e2
attribute [local irreducible] spec_DrawCompareRules

noncomputable def impl_areVotes (a0 : (List Int)) : Option (Bool) :=
  (cond (decide ((a0.length : Int) ≤ (50 : Int))) ((impl_allIn a0 (0 : Int) (60 : Int)).bind fun y1 => (some y1)) ((some false)))
def impl_areVotes.res (_ : (List Int)) (y : Bool) : AV := (.bl y)
def impl_areVotes.out (_ : (List Int)) (_ : Bool) : List (Option LB) := []
def impl_areVotes.S (ar : List AV) (h : List (Option LB)) (r : AV) (h1 : List (Option LB)) : Prop := ∃ a0 y, impl_areVotes a0 = some y ∧ leL ar [(.tree (.int .i64) a0)] ∧ leH h [] ∧ r = impl_areVotes.res a0 y ∧ h1 = impl_areVotes.out a0 y
theorem impl_areVotes.call {ar : List AV} {h : List (Option LB)} {a0 : (List Int)} {y : Bool} (H : impl_areVotes a0 = some y) (h0 : leLk ar [(.tree (.int .i64) a0)] (leHk h [])) : impl_areVotes.S ar h (impl_areVotes.res a0 y) (impl_areVotes.out a0 y) := ⟨a0, y, H, (args_ok h0).1, (args_ok h0).2, rfl, rfl⟩
set_option maxHeartbeats 100000000 in
set_option maxRecDepth 100000 in
theorem impl_areVotes.spec (a0 : (List Int)) (y : Bool) (H : impl_areVotes a0 = some y) : Spec Try.prog 138 [(.tree (.int .i64) a0)] [] (impl_areVotes.res a0 y) (impl_areVotes.out a0 y) := by
  refine spec_intro (G59_ok.at tok []) (ct := []) Try.func138 rfl (by kernel_rfl) (by kernel_rfl) rfl ?_
  repeat' first
    | ((with_reducible refine eqg ?_); exact rfl)
    | ((with_reducible refine KOb.mk ?_); kernel_rfl)
    | ((with_reducible intro h); (repeat (first | replace H := grd_k H | replace H := out_step H (by assumption))); first | replace H := cond_t h H | replace H := cond_f h H | exact absurd h (by decide) | skip)
    | ((with_reducible refine Ob.mk ?_); first | (with_reducible rfl) | (first | ((repeat (first | (with_reducible exact grd_p H) | (replace H := grd_k H) | (replace H := out_step H (by assumption)))); done) | rfl | ((repeat (first | exact grd_p H | replace H := grd_k H | replace H := out_step H (by assumption))); done) | ((repeat (first | exact grd_p H | (have hp := grd_p H; exact hp) | replace H := grd_k H | replace H := out_step H (by assumption) | (replace H := bind_some H; obtain ⟨_, _, H⟩ := H))); done) | (repeat (first | exact grd_p H | replace H := grd_k H | replace H := out_step H (by assumption)))))
    | (with_reducible exact True.intro)
    | ((conv => whnf); first
        | (with_reducible refine And.intro ?_ ?_)
        | (with_reducible exact True.intro)
        | ((with_reducible refine Ob.mk ?_); first | (with_reducible rfl) | (first | ((repeat (first | (with_reducible exact grd_p H) | (replace H := grd_k H) | (replace H := out_step H (by assumption)))); done) | rfl | ((repeat (first | exact grd_p H | replace H := grd_k H | replace H := out_step H (by assumption))); done) | ((repeat (first | exact grd_p H | (have hp := grd_p H; exact hp) | replace H := grd_k H | replace H := out_step H (by assumption) | (replace H := bind_some H; obtain ⟨_, _, H⟩ := H))); done) | (repeat (first | exact grd_p H | replace H := grd_k H | replace H := out_step H (by assumption)))))
        | ((with_reducible refine CallW.mk ?_); (repeat (first | replace H := grd_k H | replace H := out_step H (by assumption))); replace H := bind_some H; obtain ⟨y, hy, H⟩ := H; first | ((with_reducible have hz : impl_allIn _ _ _ = some y := hy); clear hz; refine Exists.intro _ (Exists.intro _ ⟨impl_allIn.call hy ?_, rfl, rfl, ?_⟩)))
        | ((with_reducible refine fin_mk ?_); (repeat (first | replace H := grd_k H | replace H := out_step H (by assumption))); have H := Option.some.inj H; subst H))
    | constructor
def G60 : Env := G59.add 138 [] impl_areVotes.S
theorem G60_ok : EnvOk Try.prog G60 := G59_ok.add ent_138 fun ar h r h1 ⟨a0, y, hy, e1, e2, e3, e4⟩ => by
  subst e3 e4; exact (impl_areVotes.spec a0 y hy).le e1 e2
attribute [local irreducible] impl_areVotes

end Go.Proofs.Ytpopcdnjnligiaa
