/-
  Contracts, printed by a program.
-/
import Derived.Test.YtpopcdnjnligiaaC602
namespace Go.Proofs.Ytpopcdnjnligiaa
open Go.RowKit
attribute [local irreducible] Ob loopwp Sub Spec Fin Again CallW CutC KOb iter joinx outm

attribute [local irreducible] laws_vBig spec_l1Cur_next spec_l1Cur_pick spec_l1Cur_among spec_l1Cur_sensors spec_DrawVoteOf impl_within impl_allIn slices_Clone___int_int_ impl_voteOf_1 math_bits_Len32 math_bits_Len64 math_bits_Len cmp_isNaN_int_ cmp_Less_int_ slices_insertionSortOrdered_int_ slices_siftDownOrdered_int_ slices_heapSortOrdered_int_ slices_nextPowerOfTwo slices_xorshift_Next slices_breakPatternsOrdered_int_ slices_order2Ordered_int_ slices_medianOrdered_int_ slices_medianAdjacentOrdered_int_

noncomputable def slices_choosePivotOrdered_int_ (_ : (List Int)) (_ : Int) (_ : Int) : Option (Int × Int) :=
  none
def slices_choosePivotOrdered_int_.res (_ : (List Int)) (_ : Int) (_ : Int) (y : Int × Int) : AV := (.tup [(.v (.int .i64 y.1)), (.v (.int .i64 y.2))])
def slices_choosePivotOrdered_int_.out (_ : (List Int)) (_ : Int) (_ : Int) (_ : Int × Int) : List (Option LB) := []
def slices_choosePivotOrdered_int_.S (ar : List AV) (h : List (Option LB)) (r : AV) (h1 : List (Option LB)) : Prop := ∃ a0 a1 a2 y, slices_choosePivotOrdered_int_ a0 a1 a2 = some y ∧ leL ar [(.tree (.int .i64) a0), (.v (.int .i64 a1)), (.v (.int .i64 a2))] ∧ leH h [] ∧ r = slices_choosePivotOrdered_int_.res a0 a1 a2 y ∧ h1 = slices_choosePivotOrdered_int_.out a0 a1 a2 y
theorem slices_choosePivotOrdered_int_.call {ar : List AV} {h : List (Option LB)} {a0 : (List Int)} {a1 : Int} {a2 : Int} {y : Int × Int} (H : slices_choosePivotOrdered_int_ a0 a1 a2 = some y) (h0 : leLk ar [(.tree (.int .i64) a0), (.v (.int .i64 a1)), (.v (.int .i64 a2))] (leHk h [])) : slices_choosePivotOrdered_int_.S ar h (slices_choosePivotOrdered_int_.res a0 a1 a2 y) (slices_choosePivotOrdered_int_.out a0 a1 a2 y) := ⟨a0, a1, a2, y, H, (args_ok h0).1, (args_ok h0).2, rfl, rfl⟩
theorem slices_choosePivotOrdered_int_.spec (a0 : (List Int)) (a1 : Int) (a2 : Int) (y : Int × Int) (H : slices_choosePivotOrdered_int_ a0 a1 a2 = some y) : Spec Try.prog 188 [(.tree (.int .i64) a0), (.v (.int .i64 a1)), (.v (.int .i64 a2))] [] (slices_choosePivotOrdered_int_.res a0 a1 a2 y) (slices_choosePivotOrdered_int_.out a0 a1 a2 y) := by
  unfold slices_choosePivotOrdered_int_ at H
  cases H
def G25 : Env := G24.add 188 [] slices_choosePivotOrdered_int_.S
theorem G25_ok : EnvOk Try.prog G25 := G24_ok.add ent_188 fun ar h r h1 ⟨a0, a1, a2, y, hy, e1, e2, e3, e4⟩ => by
  subst e3 e4; exact (slices_choosePivotOrdered_int_.spec a0 a1 a2 y hy).le e1 e2
attribute [local irreducible] slices_choosePivotOrdered_int_

noncomputable def slices_reverseRangeOrdered_int__loop1  (v4 : Int) (v5 : Int) (v6 : (List Int)) : Option (Lp (Int × Int × (List Int)) (((List Int)))) :=
  (cond (decide (v4 < v5)) (grd (0 ≤ v5 ∧ v5 < (v6.length : Int)) (grd (0 ≤ v4 ∧ v4 < (v6.length : Int)) (grd (0 ≤ v4 ∧ v4 < (v6.length : Int)) (grd (0 ≤ v5 ∧ v5 < ((v6.set v4.toNat (v6.getD v5.toNat 0)).length : Int)) (some (.go ((w64 (v4 + (1 : Int))), (w64 (v5 - (1 : Int))), ((v6.set v4.toNat (v6.getD v5.toNat 0)).set v5.toNat (v6.getD v4.toNat 0))))))))) ((some (.out v6))))
noncomputable def slices_reverseRangeOrdered_int_ (a0 : (List Int)) (a1 : Int) (a2 : Int) : Option ((List Int)) :=
  ((iter (fun s => slices_reverseRangeOrdered_int__loop1 s.1 s.2.1 s.2.2) (a1, (w64 (a2 - (1 : Int))), a0)).bind (fun r7 => (some r7)))
def slices_reverseRangeOrdered_int_.res (_ : (List Int)) (_ : Int) (_ : Int) (_ : (List Int)) : AV := (.tup [])
def slices_reverseRangeOrdered_int_.out (_ : (List Int)) (_ : Int) (_ : Int) (y : (List Int)) : List (Option LB) := [some (.arr 3 (.int .i64) y)]
def slices_reverseRangeOrdered_int_.S (ar : List AV) (h : List (Option LB)) (r : AV) (h1 : List (Option LB)) : Prop := ∃ a0 a1 a2 y, slices_reverseRangeOrdered_int_ a0 a1 a2 = some y ∧ leL ar [(.own 0), (.v (.int .i64 a1)), (.v (.int .i64 a2))] ∧ leH h [some (.arr 3 (.int .i64) a0)] ∧ r = slices_reverseRangeOrdered_int_.res a0 a1 a2 y ∧ h1 = slices_reverseRangeOrdered_int_.out a0 a1 a2 y
theorem slices_reverseRangeOrdered_int_.call {ar : List AV} {h : List (Option LB)} {a0 : (List Int)} {a1 : Int} {a2 : Int} {y : (List Int)} (H : slices_reverseRangeOrdered_int_ a0 a1 a2 = some y) (h0 : leLk ar [(.own 0), (.v (.int .i64 a1)), (.v (.int .i64 a2))] (leHk h [some (.arr 3 (.int .i64) a0)])) : slices_reverseRangeOrdered_int_.S ar h (slices_reverseRangeOrdered_int_.res a0 a1 a2 y) (slices_reverseRangeOrdered_int_.out a0 a1 a2 y) := ⟨a0, a1, a2, y, H, (args_ok h0).1, (args_ok h0).2, rfl, rfl⟩
set_option maxHeartbeats 100000000 in
set_option maxRecDepth 100000 in
theorem slices_reverseRangeOrdered_int_.spec (a0 : (List Int)) (a1 : Int) (a2 : Int) (y : (List Int)) (H : slices_reverseRangeOrdered_int_ a0 a1 a2 = some y) : Spec Try.prog 189 [(.own 0), (.v (.int .i64 a1)), (.v (.int .i64 a2))] [some (.arr 3 (.int .i64) a0)] (slices_reverseRangeOrdered_int_.res a0 a1 a2 y) (slices_reverseRangeOrdered_int_.out a0 a1 a2 y) := by
  refine spec_intro (G25_ok.at tok []) (ct := [(4, some [0, 6, 7])]) Try.func189 rfl (by kernel_rfl) (by kernel_rfl) rfl ?_
  repeat' first
    | ((with_reducible refine eqg ?_); exact rfl)
    | ((with_reducible refine KOb.mk ?_); kernel_rfl)
    | ((with_reducible intro h); (repeat (first | replace H := grd_k H | replace H := out_step H (by assumption))); first | replace H := cond_t h H | replace H := cond_f h H | exact absurd h (by decide) | skip)
    | ((with_reducible refine Ob.mk ?_); first | (with_reducible rfl) | (first | ((repeat (first | (with_reducible exact grd_p H) | (replace H := grd_k H) | (replace H := out_step H (by assumption)))); done) | rfl | ((repeat (first | exact grd_p H | replace H := grd_k H | replace H := out_step H (by assumption))); done) | ((repeat (first | exact grd_p H | (have hp := grd_p H; exact hp) | replace H := grd_k H | replace H := out_step H (by assumption) | (replace H := bind_some H; obtain ⟨_, _, H⟩ := H))); done) | (repeat (first | exact grd_p H | replace H := grd_k H | replace H := out_step H (by assumption)))))
    | (with_reducible exact True.intro)
    | ((conv => whnf); first
        | (with_reducible refine And.intro ?_ ?_)
        | (with_reducible exact True.intro)
        | ((with_reducible refine Ob.mk ?_); first | (with_reducible rfl) | (first | ((repeat (first | (with_reducible exact grd_p H) | (replace H := grd_k H) | (replace H := out_step H (by assumption)))); done) | rfl | ((repeat (first | exact grd_p H | replace H := grd_k H | replace H := out_step H (by assumption))); done) | ((repeat (first | exact grd_p H | (have hp := grd_p H; exact hp) | replace H := grd_k H | replace H := out_step H (by assumption) | (replace H := bind_some H; obtain ⟨_, _, H⟩ := H))); done) | (repeat (first | exact grd_p H | replace H := grd_k H | replace H := out_step H (by assumption)))))
        | ((repeat (first | replace H := grd_k H | replace H := out_step H (by assumption))); refine loop_iter (G25_ok.at tok []) (ct := [(4, some [0, 6, 7])]) (F := (fun s1 : Int × Int × (List Int) => ⟨sl [(0, (.own 0)), (6, (.v (.int .i64 s1.1))), (7, (.v (.int .i64 s1.2.1)))], [some (.arr 3 (.int .i64) s1.2.2)]⟩)) (step := (fun s : Int × Int × (List Int) => slices_reverseRangeOrdered_int__loop1 s.1 s.2.1 s.2.2)) _ H (by kernel_rfl) (sub_auto ?_) ?_; rotate_left; (intro s1 r v hr H); rotate_right)
        | ((repeat (first | replace H := grd_k H | replace H := out_step H (by assumption))); refine again_step H (by assumption) (sub_auto ?_))
        | ((with_reducible refine fin_mk ?_); (repeat (first | replace H := grd_k H | replace H := out_step H (by assumption))); have H := Option.some.inj H; subst H))
    | constructor
  all_goals exact viewz _ _
def G26 : Env := G25.add 189 [true] slices_reverseRangeOrdered_int_.S
theorem G26_ok : EnvOk Try.prog G26 := G25_ok.add ent_189 fun ar h r h1 ⟨a0, a1, a2, y, hy, e1, e2, e3, e4⟩ => by
  subst e3 e4; exact (slices_reverseRangeOrdered_int_.spec a0 a1 a2 y hy).le e1 e2
attribute [local irreducible] slices_reverseRangeOrdered_int_

noncomputable def slices_partialInsertionSortOrdered_int_ (_ : (List Int)) (_ : Int) (_ : Int) : Option (Bool) :=
  none
def slices_partialInsertionSortOrdered_int_.res (_ : (List Int)) (_ : Int) (_ : Int) (y : Bool) : AV := (.bl y)
def slices_partialInsertionSortOrdered_int_.out (_ : (List Int)) (_ : Int) (_ : Int) (_ : Bool) : List (Option LB) := []
def slices_partialInsertionSortOrdered_int_.S (ar : List AV) (h : List (Option LB)) (r : AV) (h1 : List (Option LB)) : Prop := ∃ a0 a1 a2 y, slices_partialInsertionSortOrdered_int_ a0 a1 a2 = some y ∧ leL ar [(.tree (.int .i64) a0), (.v (.int .i64 a1)), (.v (.int .i64 a2))] ∧ leH h [] ∧ r = slices_partialInsertionSortOrdered_int_.res a0 a1 a2 y ∧ h1 = slices_partialInsertionSortOrdered_int_.out a0 a1 a2 y
theorem slices_partialInsertionSortOrdered_int_.call {ar : List AV} {h : List (Option LB)} {a0 : (List Int)} {a1 : Int} {a2 : Int} {y : Bool} (H : slices_partialInsertionSortOrdered_int_ a0 a1 a2 = some y) (h0 : leLk ar [(.tree (.int .i64) a0), (.v (.int .i64 a1)), (.v (.int .i64 a2))] (leHk h [])) : slices_partialInsertionSortOrdered_int_.S ar h (slices_partialInsertionSortOrdered_int_.res a0 a1 a2 y) (slices_partialInsertionSortOrdered_int_.out a0 a1 a2 y) := ⟨a0, a1, a2, y, H, (args_ok h0).1, (args_ok h0).2, rfl, rfl⟩
theorem slices_partialInsertionSortOrdered_int_.spec (a0 : (List Int)) (a1 : Int) (a2 : Int) (y : Bool) (H : slices_partialInsertionSortOrdered_int_ a0 a1 a2 = some y) : Spec Try.prog 190 [(.tree (.int .i64) a0), (.v (.int .i64 a1)), (.v (.int .i64 a2))] [] (slices_partialInsertionSortOrdered_int_.res a0 a1 a2 y) (slices_partialInsertionSortOrdered_int_.out a0 a1 a2 y) := by
  unfold slices_partialInsertionSortOrdered_int_ at H
  cases H
def G27 : Env := G26.add 190 [] slices_partialInsertionSortOrdered_int_.S
theorem G27_ok : EnvOk Try.prog G27 := G26_ok.add ent_190 fun ar h r h1 ⟨a0, a1, a2, y, hy, e1, e2, e3, e4⟩ => by
  subst e3 e4; exact (slices_partialInsertionSortOrdered_int_.spec a0 a1 a2 y hy).le e1 e2
attribute [local irreducible] slices_partialInsertionSortOrdered_int_

noncomputable def slices_partitionEqualOrdered_int_ (_ : (List Int)) (_ : Int) (_ : Int) (_ : Int) : Option (Int) :=
  none
def slices_partitionEqualOrdered_int_.res (_ : (List Int)) (_ : Int) (_ : Int) (_ : Int) (y : Int) : AV := (.v (.int .i64 y))
def slices_partitionEqualOrdered_int_.out (_ : (List Int)) (_ : Int) (_ : Int) (_ : Int) (_ : Int) : List (Option LB) := []
def slices_partitionEqualOrdered_int_.S (ar : List AV) (h : List (Option LB)) (r : AV) (h1 : List (Option LB)) : Prop := ∃ a0 a1 a2 a3 y, slices_partitionEqualOrdered_int_ a0 a1 a2 a3 = some y ∧ leL ar [(.tree (.int .i64) a0), (.v (.int .i64 a1)), (.v (.int .i64 a2)), (.v (.int .i64 a3))] ∧ leH h [] ∧ r = slices_partitionEqualOrdered_int_.res a0 a1 a2 a3 y ∧ h1 = slices_partitionEqualOrdered_int_.out a0 a1 a2 a3 y
theorem slices_partitionEqualOrdered_int_.call {ar : List AV} {h : List (Option LB)} {a0 : (List Int)} {a1 : Int} {a2 : Int} {a3 : Int} {y : Int} (H : slices_partitionEqualOrdered_int_ a0 a1 a2 a3 = some y) (h0 : leLk ar [(.tree (.int .i64) a0), (.v (.int .i64 a1)), (.v (.int .i64 a2)), (.v (.int .i64 a3))] (leHk h [])) : slices_partitionEqualOrdered_int_.S ar h (slices_partitionEqualOrdered_int_.res a0 a1 a2 a3 y) (slices_partitionEqualOrdered_int_.out a0 a1 a2 a3 y) := ⟨a0, a1, a2, a3, y, H, (args_ok h0).1, (args_ok h0).2, rfl, rfl⟩
theorem slices_partitionEqualOrdered_int_.spec (a0 : (List Int)) (a1 : Int) (a2 : Int) (a3 : Int) (y : Int) (H : slices_partitionEqualOrdered_int_ a0 a1 a2 a3 = some y) : Spec Try.prog 192 [(.tree (.int .i64) a0), (.v (.int .i64 a1)), (.v (.int .i64 a2)), (.v (.int .i64 a3))] [] (slices_partitionEqualOrdered_int_.res a0 a1 a2 a3 y) (slices_partitionEqualOrdered_int_.out a0 a1 a2 a3 y) := by
  unfold slices_partitionEqualOrdered_int_ at H
  cases H
def G28 : Env := G27.add 192 [] slices_partitionEqualOrdered_int_.S
theorem G28_ok : EnvOk Try.prog G28 := G27_ok.add ent_192 fun ar h r h1 ⟨a0, a1, a2, a3, y, hy, e1, e2, e3, e4⟩ => by
  subst e3 e4; exact (slices_partitionEqualOrdered_int_.spec a0 a1 a2 a3 y hy).le e1 e2
attribute [local irreducible] slices_partitionEqualOrdered_int_

noncomputable def slices_partitionOrdered_int_ (_ : (List Int)) (_ : Int) (_ : Int) (_ : Int) : Option (Int × Bool) :=
  none
def slices_partitionOrdered_int_.res (_ : (List Int)) (_ : Int) (_ : Int) (_ : Int) (y : Int × Bool) : AV := (.tup [(.v (.int .i64 y.1)), (.bl y.2)])
def slices_partitionOrdered_int_.out (_ : (List Int)) (_ : Int) (_ : Int) (_ : Int) (_ : Int × Bool) : List (Option LB) := []
def slices_partitionOrdered_int_.S (ar : List AV) (h : List (Option LB)) (r : AV) (h1 : List (Option LB)) : Prop := ∃ a0 a1 a2 a3 y, slices_partitionOrdered_int_ a0 a1 a2 a3 = some y ∧ leL ar [(.tree (.int .i64) a0), (.v (.int .i64 a1)), (.v (.int .i64 a2)), (.v (.int .i64 a3))] ∧ leH h [] ∧ r = slices_partitionOrdered_int_.res a0 a1 a2 a3 y ∧ h1 = slices_partitionOrdered_int_.out a0 a1 a2 a3 y
theorem slices_partitionOrdered_int_.call {ar : List AV} {h : List (Option LB)} {a0 : (List Int)} {a1 : Int} {a2 : Int} {a3 : Int} {y : Int × Bool} (H : slices_partitionOrdered_int_ a0 a1 a2 a3 = some y) (h0 : leLk ar [(.tree (.int .i64) a0), (.v (.int .i64 a1)), (.v (.int .i64 a2)), (.v (.int .i64 a3))] (leHk h [])) : slices_partitionOrdered_int_.S ar h (slices_partitionOrdered_int_.res a0 a1 a2 a3 y) (slices_partitionOrdered_int_.out a0 a1 a2 a3 y) := ⟨a0, a1, a2, a3, y, H, (args_ok h0).1, (args_ok h0).2, rfl, rfl⟩
theorem slices_partitionOrdered_int_.spec (a0 : (List Int)) (a1 : Int) (a2 : Int) (a3 : Int) (y : Int × Bool) (H : slices_partitionOrdered_int_ a0 a1 a2 a3 = some y) : Spec Try.prog 193 [(.tree (.int .i64) a0), (.v (.int .i64 a1)), (.v (.int .i64 a2)), (.v (.int .i64 a3))] [] (slices_partitionOrdered_int_.res a0 a1 a2 a3 y) (slices_partitionOrdered_int_.out a0 a1 a2 a3 y) := by
  unfold slices_partitionOrdered_int_ at H
  cases H
def G29 : Env := G28.add 193 [] slices_partitionOrdered_int_.S
theorem G29_ok : EnvOk Try.prog G29 := G28_ok.add ent_193 fun ar h r h1 ⟨a0, a1, a2, a3, y, hy, e1, e2, e3, e4⟩ => by
  subst e3 e4; exact (slices_partitionOrdered_int_.spec a0 a1 a2 a3 y hy).le e1 e2
attribute [local irreducible] slices_partitionOrdered_int_

noncomputable def slices_pdqsortOrdered_int__loop1 (a0 : (List Int)) (a1 : Int) (a2 : Int) (a3 : Int)  : Option (Lp (Unit) (((List Int)))) :=
  (cond (decide ((w64 (a2 - a1)) ≤ (12 : Int))) ((slices_insertionSortOrdered_int_ a0 a1 a2).bind fun y3 => (some (.out y3))) (cond (decide (a3 = (0 : Int))) (grd (False) none) ((some ()).bind fun _ => (grd (False) none))))
noncomputable def slices_pdqsortOrdered_int_ (a0 : (List Int)) (a1 : Int) (a2 : Int) (a3 : Int) : Option ((List Int)) :=
  ((iter (fun _ => slices_pdqsortOrdered_int__loop1 a0 a1 a2 a3) ()).bind (fun r5 => (some r5)))
def slices_pdqsortOrdered_int_.res (_ : (List Int)) (_ : Int) (_ : Int) (_ : Int) (_ : (List Int)) : AV := (.tup [])
def slices_pdqsortOrdered_int_.out (_ : (List Int)) (_ : Int) (_ : Int) (_ : Int) (y : (List Int)) : List (Option LB) := [some (.arr 3 (.int .i64) y)]
def slices_pdqsortOrdered_int_.S (ar : List AV) (h : List (Option LB)) (r : AV) (h1 : List (Option LB)) : Prop := ∃ a0 a1 a2 a3 y, slices_pdqsortOrdered_int_ a0 a1 a2 a3 = some y ∧ leL ar [(.own 0), (.v (.int .i64 a1)), (.v (.int .i64 a2)), (.v (.int .i64 a3))] ∧ leH h [some (.arr 3 (.int .i64) a0)] ∧ r = slices_pdqsortOrdered_int_.res a0 a1 a2 a3 y ∧ h1 = slices_pdqsortOrdered_int_.out a0 a1 a2 a3 y
theorem slices_pdqsortOrdered_int_.call {ar : List AV} {h : List (Option LB)} {a0 : (List Int)} {a1 : Int} {a2 : Int} {a3 : Int} {y : (List Int)} (H : slices_pdqsortOrdered_int_ a0 a1 a2 a3 = some y) (h0 : leLk ar [(.own 0), (.v (.int .i64 a1)), (.v (.int .i64 a2)), (.v (.int .i64 a3))] (leHk h [some (.arr 3 (.int .i64) a0)])) : slices_pdqsortOrdered_int_.S ar h (slices_pdqsortOrdered_int_.res a0 a1 a2 a3 y) (slices_pdqsortOrdered_int_.out a0 a1 a2 a3 y) := ⟨a0, a1, a2, a3, y, H, (args_ok h0).1, (args_ok h0).2, rfl, rfl⟩
set_option maxHeartbeats 100000000 in
set_option maxRecDepth 100000 in
theorem slices_pdqsortOrdered_int_.spec (a0 : (List Int)) (a1 : Int) (a2 : Int) (a3 : Int) (y : (List Int)) (H : slices_pdqsortOrdered_int_ a0 a1 a2 a3 = some y) : Spec Try.prog 180 [(.own 0), (.v (.int .i64 a1)), (.v (.int .i64 a2)), (.v (.int .i64 a3))] [some (.arr 3 (.int .i64) a0)] (slices_pdqsortOrdered_int_.res a0 a1 a2 a3 y) (slices_pdqsortOrdered_int_.out a0 a1 a2 a3 y) := by
  refine spec_intro (G29_ok.at tok []) (ct := [(10, none), (7, some [0, 1, 2, 3, 8, 9, 10, 63, 66, 67, 76, 77, 78, 79, 80, 81, 82, 83, 84, 85, 86]), (13, some [0, 1, 2, 3, 8, 9, 10, 11, 63, 66, 67, 76, 77, 78, 79, 80, 81, 82, 83, 84, 85, 86]), (16, some [0, 1, 2, 3, 8, 9, 10, 11, 63, 66, 67, 68, 76, 77, 78, 79, 80, 81, 82, 83, 84, 85, 86]), (18, some [0, 1, 2, 3, 8, 9, 10, 11, 63, 66, 67, 76, 77, 78, 79, 80, 81, 82, 83, 84, 85, 86, 87]), (21, some [0, 1, 2, 3, 10, 14, 15, 63, 66, 67, 76, 77, 78, 79, 80, 81, 82, 83, 84, 85, 86]), (25, some [0, 1, 2, 3, 9, 14, 16, 17, 18, 63, 66, 67, 76, 77, 78, 79, 80, 81, 82, 83, 84, 85, 86, 113])]) Try.func180 rfl (by kernel_rfl) (by kernel_rfl) rfl ?_
  repeat' first
    | ((with_reducible refine eqg ?_); exact rfl)
    | ((with_reducible refine KOb.mk ?_); kernel_rfl)
    | ((with_reducible intro h); (repeat (first | replace H := grd_k H | replace H := out_step H (by assumption))); first | replace H := cond_t h H | replace H := cond_f h H | exact absurd h (by decide) | skip)
    | ((with_reducible refine Ob.mk ?_); first | (with_reducible rfl) | (first | ((repeat (first | (with_reducible exact grd_p H) | (replace H := grd_k H) | (replace H := out_step H (by assumption)))); done) | rfl | ((repeat (first | exact grd_p H | replace H := grd_k H | replace H := out_step H (by assumption))); done) | ((repeat (first | exact grd_p H | (have hp := grd_p H; exact hp) | replace H := grd_k H | replace H := out_step H (by assumption) | (replace H := bind_some H; obtain ⟨_, _, H⟩ := H))); done) | (repeat (first | exact grd_p H | replace H := grd_k H | replace H := out_step H (by assumption)))))
    | (with_reducible exact True.intro)
    | ((conv => whnf); first
        | (with_reducible refine And.intro ?_ ?_)
        | (with_reducible exact True.intro)
        | ((with_reducible refine Ob.mk ?_); first | (with_reducible rfl) | (first | ((repeat (first | (with_reducible exact grd_p H) | (replace H := grd_k H) | (replace H := out_step H (by assumption)))); done) | rfl | ((repeat (first | exact grd_p H | replace H := grd_k H | replace H := out_step H (by assumption))); done) | ((repeat (first | exact grd_p H | (have hp := grd_p H; exact hp) | replace H := grd_k H | replace H := out_step H (by assumption) | (replace H := bind_some H; obtain ⟨_, _, H⟩ := H))); done) | (repeat (first | exact grd_p H | replace H := grd_k H | replace H := out_step H (by assumption)))))
        | ((with_reducible refine CallW.mk ?_); (repeat (first | replace H := grd_k H | replace H := out_step H (by assumption))); replace H := bind_some H; obtain ⟨y, hy, H⟩ := H; first | ((with_reducible have hz : slices_insertionSortOrdered_int_ _ _ _ = some y := hy); clear hz; refine Exists.intro _ (Exists.intro _ ⟨slices_insertionSortOrdered_int_.call hy ?_, rfl, rfl, ?_⟩)))
        | ((repeat (first | replace H := grd_k H | replace H := out_step H (by assumption))); refine loop_iter (G29_ok.at tok []) (ct := [(10, none), (7, some [0, 1, 2, 3, 8, 9, 10, 63, 66, 67, 76, 77, 78, 79, 80, 81, 82, 83, 84, 85, 86]), (13, some [0, 1, 2, 3, 8, 9, 10, 11, 63, 66, 67, 76, 77, 78, 79, 80, 81, 82, 83, 84, 85, 86]), (16, some [0, 1, 2, 3, 8, 9, 10, 11, 63, 66, 67, 68, 76, 77, 78, 79, 80, 81, 82, 83, 84, 85, 86]), (18, some [0, 1, 2, 3, 8, 9, 10, 11, 63, 66, 67, 76, 77, 78, 79, 80, 81, 82, 83, 84, 85, 86, 87]), (21, some [0, 1, 2, 3, 10, 14, 15, 63, 66, 67, 76, 77, 78, 79, 80, 81, 82, 83, 84, 85, 86]), (25, some [0, 1, 2, 3, 9, 14, 16, 17, 18, 63, 66, 67, 76, 77, 78, 79, 80, 81, 82, 83, 84, 85, 86, 113])]) (F := (fun s1 : Unit => ⟨sl [(0, (.own 0)), (1, (.v (.int .i64 a1))), (2, (.v (.int .i64 a2))), (3, (.v (.int .i64 a3))), (8, (.v (.bool true))), (9, (.v (.bool true)))], [some (.arr 3 (.int .i64) a0)]⟩)) (step := (fun s : Unit => slices_pdqsortOrdered_int__loop1 _ _ _ _)) _ H (by kernel_rfl) (sub_auto ?_) ?_; rotate_left; (intro s1 r v hr H); rotate_right)
        | ((with_reducible refine cutAt (id := 10) ?_); (repeat (first | replace H := grd_k H | replace H := out_step H (by assumption))); first | (replace H := bind_some H; obtain ⟨z, hz, H⟩ := H; refine CutC.mk (id := 10) ⟨sl [(0, (.own 0)), (1, (.v (.int .i64 a1))), (2, (.v (.int .i64 a2))), (3, (.v (.int .i64 a3))), (8, (.v (.bool true))), (9, (.v (.bool true))), (10, (.v (.int .i64 (w64 (a2 - a1)))))], [some (.arr 3 (.int .i64) a0)]⟩ ?_ ?_; (replace H := hz)))
        | ((repeat (first | replace H := grd_k H | replace H := out_step H (by assumption))); have H := Option.some.inj H; subst H; with_reducible refine sub_auto ?_)
        | ((repeat (first | replace H := grd_k H | replace H := out_step H (by assumption))); refine again_step H (by assumption) (sub_auto ?_))
        | ((with_reducible refine fin_mk ?_); (repeat (first | replace H := grd_k H | replace H := out_step H (by assumption))); have H := Option.some.inj H; subst H)
        | (exact (grd_no H).elim))
    | constructor
  all_goals exact viewz _ _
def G30 : Env := G29.add 180 [true] slices_pdqsortOrdered_int_.S
theorem G30_ok : EnvOk Try.prog G30 := G29_ok.add ent_180 fun ar h r h1 ⟨a0, a1, a2, a3, y, hy, e1, e2, e3, e4⟩ => by
  subst e3 e4; exact (slices_pdqsortOrdered_int_.spec a0 a1 a2 a3 y hy).le e1 e2
attribute [local irreducible] slices_pdqsortOrdered_int_

noncomputable def slices_Sort___int_int_ (a0 : (List Int)) : Option ((List Int)) :=
  ((math_bits_Len (wu64 (a0.length : Int))).bind fun y1 => ((slices_pdqsortOrdered_int_ a0 (0 : Int) (a0.length : Int) y1).bind fun y2 => (some y2)))
def slices_Sort___int_int_.res (_ : (List Int)) (_ : (List Int)) : AV := (.tup [])
def slices_Sort___int_int_.out (_ : (List Int)) (y : (List Int)) : List (Option LB) := [some (.arr 3 (.int .i64) y)]
def slices_Sort___int_int_.S (ar : List AV) (h : List (Option LB)) (r : AV) (h1 : List (Option LB)) : Prop := ∃ a0 y, slices_Sort___int_int_ a0 = some y ∧ leL ar [(.own 0)] ∧ leH h [some (.arr 3 (.int .i64) a0)] ∧ r = slices_Sort___int_int_.res a0 y ∧ h1 = slices_Sort___int_int_.out a0 y
theorem slices_Sort___int_int_.call {ar : List AV} {h : List (Option LB)} {a0 : (List Int)} {y : (List Int)} (H : slices_Sort___int_int_ a0 = some y) (h0 : leLk ar [(.own 0)] (leHk h [some (.arr 3 (.int .i64) a0)])) : slices_Sort___int_int_.S ar h (slices_Sort___int_int_.res a0 y) (slices_Sort___int_int_.out a0 y) := ⟨a0, y, H, (args_ok h0).1, (args_ok h0).2, rfl, rfl⟩
set_option maxHeartbeats 100000000 in
set_option maxRecDepth 100000 in
theorem slices_Sort___int_int_.spec (a0 : (List Int)) (y : (List Int)) (H : slices_Sort___int_int_ a0 = some y) : Spec Try.prog 163 [(.own 0)] [some (.arr 3 (.int .i64) a0)] (slices_Sort___int_int_.res a0 y) (slices_Sort___int_int_.out a0 y) := by
  refine spec_intro (G30_ok.at tok []) (ct := []) Try.func163 rfl (by kernel_rfl) (by kernel_rfl) rfl ?_
  repeat' first
    | ((with_reducible refine eqg ?_); exact rfl)
    | ((with_reducible refine KOb.mk ?_); kernel_rfl)
    | ((with_reducible intro h); (repeat (first | replace H := grd_k H | replace H := out_step H (by assumption))); first | replace H := cond_t h H | replace H := cond_f h H | exact absurd h (by decide) | skip)
    | ((with_reducible refine Ob.mk ?_); first | (with_reducible rfl) | (first | ((repeat (first | (with_reducible exact grd_p H) | (replace H := grd_k H) | (replace H := out_step H (by assumption)))); done) | rfl | ((repeat (first | exact grd_p H | replace H := grd_k H | replace H := out_step H (by assumption))); done) | ((repeat (first | exact grd_p H | (have hp := grd_p H; exact hp) | replace H := grd_k H | replace H := out_step H (by assumption) | (replace H := bind_some H; obtain ⟨_, _, H⟩ := H))); done) | (repeat (first | exact grd_p H | replace H := grd_k H | replace H := out_step H (by assumption)))))
    | (with_reducible exact True.intro)
    | ((conv => whnf); first
        | (with_reducible refine And.intro ?_ ?_)
        | (with_reducible exact True.intro)
        | ((with_reducible refine Ob.mk ?_); first | (with_reducible rfl) | (first | ((repeat (first | (with_reducible exact grd_p H) | (replace H := grd_k H) | (replace H := out_step H (by assumption)))); done) | rfl | ((repeat (first | exact grd_p H | replace H := grd_k H | replace H := out_step H (by assumption))); done) | ((repeat (first | exact grd_p H | (have hp := grd_p H; exact hp) | replace H := grd_k H | replace H := out_step H (by assumption) | (replace H := bind_some H; obtain ⟨_, _, H⟩ := H))); done) | (repeat (first | exact grd_p H | replace H := grd_k H | replace H := out_step H (by assumption)))))
        | ((with_reducible refine CallW.mk ?_); (repeat (first | replace H := grd_k H | replace H := out_step H (by assumption))); replace H := bind_some H; obtain ⟨y, hy, H⟩ := H; first | ((with_reducible have hz : math_bits_Len _ = some y := hy); clear hz; refine Exists.intro _ (Exists.intro _ ⟨math_bits_Len.call hy ?_, rfl, rfl, ?_⟩)) | ((with_reducible have hz : slices_pdqsortOrdered_int_ _ _ _ _ = some y := hy); clear hz; refine Exists.intro _ (Exists.intro _ ⟨slices_pdqsortOrdered_int_.call hy ?_, rfl, rfl, ?_⟩)))
        | ((with_reducible refine fin_mk ?_); (repeat (first | replace H := grd_k H | replace H := out_step H (by assumption))); have H := Option.some.inj H; subst H))
    | constructor
  all_goals exact viewz _ _
def G31 : Env := G30.add 163 [true] slices_Sort___int_int_.S
theorem G31_ok : EnvOk Try.prog G31 := G30_ok.add ent_163 fun ar h r h1 ⟨a0, y, hy, e1, e2, e3, e4⟩ => by
  subst e3 e4; exact (slices_Sort___int_int_.spec a0 y hy).le e1 e2
attribute [local irreducible] slices_Sort___int_int_

noncomputable def slices_IndexFunc___int_int__i1_loop1 (a0 : (List Int)) (v4 : Int) : Option (Lp (Int) ((Int) ⊕ (Unit))) :=
  (cond (decide (v4 < (a0.length : Int))) (grd (0 ≤ v4 ∧ v4 < (a0.length : Int)) ((impl_voteOf_1 (a0.getD v4.toNat 0)).bind fun y5 => (cond y5 ((some (.out (Sum.inl v4)))) (some (.go (w64 (v4 + (1 : Int)))))))) ((some (.out (Sum.inr ())))))
noncomputable def slices_IndexFunc___int_int__i1 (a0 : (List Int)) : Option (Int) :=
  ((iter (fun s => slices_IndexFunc___int_int__i1_loop1 a0 s) (0 : Int)).bind (Sum.elim (fun r7 => (some r7)) (fun _ => (some ((-1) : Int)))))
def slices_IndexFunc___int_int__i1.res (_ : (List Int)) (y : Int) : AV := (.v (.int .i64 y))
def slices_IndexFunc___int_int__i1.out (_ : (List Int)) (_ : Int) : List (Option LB) := []
def slices_IndexFunc___int_int__i1.S (ar : List AV) (h : List (Option LB)) (r : AV) (h1 : List (Option LB)) : Prop := ∃ a0 y, slices_IndexFunc___int_int__i1 a0 = some y ∧ leL ar [(.tree (.int .i64) a0), (.fn 162 [])] ∧ leH h [] ∧ r = slices_IndexFunc___int_int__i1.res a0 y ∧ h1 = slices_IndexFunc___int_int__i1.out a0 y
theorem slices_IndexFunc___int_int__i1.call {ar : List AV} {h : List (Option LB)} {a0 : (List Int)} {y : Int} (H : slices_IndexFunc___int_int__i1 a0 = some y) (h0 : leLk ar [(.tree (.int .i64) a0), (.fn 162 [])] (leHk h [])) : slices_IndexFunc___int_int__i1.S ar h (slices_IndexFunc___int_int__i1.res a0 y) (slices_IndexFunc___int_int__i1.out a0 y) := ⟨a0, y, H, (args_ok h0).1, (args_ok h0).2, rfl, rfl⟩
set_option maxHeartbeats 100000000 in
set_option maxRecDepth 100000 in
theorem slices_IndexFunc___int_int__i1.spec (a0 : (List Int)) (y : Int) (H : slices_IndexFunc___int_int__i1 a0 = some y) : Spec Try.prog 179 [(.tree (.int .i64) a0), (.fn 162 [])] [] (slices_IndexFunc___int_int__i1.res a0 y) (slices_IndexFunc___int_int__i1.out a0 y) := by
  refine spec_intro (G31_ok.at tok []) (ct := []) Try.func179 rfl (by kernel_rfl) (by kernel_rfl) rfl ?_
  repeat' first
    | ((with_reducible refine eqg ?_); exact rfl)
    | ((with_reducible refine KOb.mk ?_); kernel_rfl)
    | ((with_reducible intro h); (repeat (first | replace H := grd_k H | replace H := out_step H (by assumption))); first | replace H := cond_t h H | replace H := cond_f h H | exact absurd h (by decide) | skip)
    | ((with_reducible refine Ob.mk ?_); first | (with_reducible rfl) | (first | ((repeat (first | (with_reducible exact grd_p H) | (replace H := grd_k H) | (replace H := out_step H (by assumption)))); done) | rfl | ((repeat (first | exact grd_p H | replace H := grd_k H | replace H := out_step H (by assumption))); done) | ((repeat (first | exact grd_p H | (have hp := grd_p H; exact hp) | replace H := grd_k H | replace H := out_step H (by assumption) | (replace H := bind_some H; obtain ⟨_, _, H⟩ := H))); done) | (repeat (first | exact grd_p H | replace H := grd_k H | replace H := out_step H (by assumption)))))
    | (with_reducible exact True.intro)
    | ((conv => whnf); first
        | (with_reducible refine And.intro ?_ ?_)
        | (with_reducible exact True.intro)
        | ((with_reducible refine Ob.mk ?_); first | (with_reducible rfl) | (first | ((repeat (first | (with_reducible exact grd_p H) | (replace H := grd_k H) | (replace H := out_step H (by assumption)))); done) | rfl | ((repeat (first | exact grd_p H | replace H := grd_k H | replace H := out_step H (by assumption))); done) | ((repeat (first | exact grd_p H | (have hp := grd_p H; exact hp) | replace H := grd_k H | replace H := out_step H (by assumption) | (replace H := bind_some H; obtain ⟨_, _, H⟩ := H))); done) | (repeat (first | exact grd_p H | replace H := grd_k H | replace H := out_step H (by assumption)))))
        | ((with_reducible refine CallW.mk ?_); (repeat (first | replace H := grd_k H | replace H := out_step H (by assumption))); replace H := bind_some H; obtain ⟨y, hy, H⟩ := H; first | ((with_reducible have hz : impl_voteOf_1 _ = some y := hy); clear hz; refine Exists.intro _ (Exists.intro _ ⟨impl_voteOf_1.call hy ?_, rfl, rfl, ?_⟩)))
        | ((repeat (first | replace H := grd_k H | replace H := out_step H (by assumption))); refine loop_iter (G31_ok.at tok []) (ct := []) (F := (fun s1 : Int => ⟨sl [(0, (.tree (.int .i64) a0)), (1, (.fn 162 [])), (7, (.v (.int .i64 (a0.length : Int)))), (8, (.v (.int .i64 s1)))], []⟩)) (step := (fun s : Int => slices_IndexFunc___int_int__i1_loop1 _ s)) _ H (by kernel_rfl) (sub_auto ?_) ?_; rotate_left; (intro s1 r v hr H); rotate_right)
        | ((repeat (first | replace H := grd_k H | replace H := out_step H (by assumption))); refine again_step H (by assumption) (sub_auto ?_))
        | ((with_reducible refine fin_mk ?_); (repeat (first | replace H := grd_k H | replace H := out_step H (by assumption))); have H := Option.some.inj H; subst H))
    | constructor
  all_goals exact viewz _ _
def G32 : Env := G31.add 179 [] slices_IndexFunc___int_int__i1.S
theorem G32_ok : EnvOk Try.prog G32 := G31_ok.add ent_179 fun ar h r h1 ⟨a0, y, hy, e1, e2, e3, e4⟩ => by
  subst e3 e4; exact (slices_IndexFunc___int_int__i1.spec a0 y hy).le e1 e2
attribute [local irreducible] slices_IndexFunc___int_int__i1

noncomputable def slices_DeleteFunc___int_int__i1_loop1  (v9 : Int) (v10 : Int) (v11 : (List Int)) : Option (Lp (Int × Int × (List Int)) ((Int × (List Int)))) :=
  (cond (decide (v10 < (v11.length : Int))) (grd (0 ≤ v10 ∧ v10 < (v11.length : Int)) ((impl_voteOf_1 (v11.getD v10.toNat 0)).bind fun y12 => (cond (!y12) (grd (0 ≤ v9 ∧ v9 < (v11.length : Int)) (some (.go ((w64 (v9 + (1 : Int))), (w64 (v10 + (1 : Int))), (v11.set v9.toNat (v11.getD v10.toNat 0)))))) (some (.go (v9, (w64 (v10 + (1 : Int))), v11)))))) ((some (.out (v9, v11)))))
noncomputable def slices_DeleteFunc___int_int__i1 (a0 : (List Int)) : Option (((List Int) × (List Int)) ⊕ ((List Int))) :=
  ((slices_IndexFunc___int_int__i1 a0).bind fun y1 => (cond (decide (y1 = ((-1) : Int))) ((some (Sum.inl (a0, a0)))) ((iter (fun s => slices_DeleteFunc___int_int__i1_loop1 s.1 s.2.1 s.2.2) (y1, (w64 (y1 + (1 : Int))), a0)).bind (fun r13 => (grd (0 ≤ r13.1 ∧ r13.1 ≤ (r13.2.length : Int) ∧ (r13.2.length : Int) ≤ (r13.2.length : Int)) (grd (0 ≤ (0 : Int) ∧ (0 : Int) ≤ r13.1 ∧ r13.1 ≤ ((clr r13.2 r13.1.toNat (((r13.2.length : Int) - r13.1).toNat) (0 : Int)).length : Int)) ((some (Sum.inr ((clr r13.2 r13.1.toNat (((r13.2.length : Int) - r13.1).toNat) (0 : Int)).take r13.1.toNat))))))))))
def slices_DeleteFunc___int_int__i1.res (_ : (List Int)) (y : ((List Int) × (List Int)) ⊕ ((List Int))) : AV := match y with
  | (.inl y) => (.own 0)
  | (.inr y) => (.own 1)
def slices_DeleteFunc___int_int__i1.out (_ : (List Int)) (y : ((List Int) × (List Int)) ⊕ ((List Int))) : List (Option LB) := match y with
  | (.inl y) => [some (.arr 3 (.int .i64) y.2)]
  | (.inr y) => [none, some (.arr 3 (.int .i64) y)]
def slices_DeleteFunc___int_int__i1.S (ar : List AV) (h : List (Option LB)) (r : AV) (h1 : List (Option LB)) : Prop := ∃ a0 y, slices_DeleteFunc___int_int__i1 a0 = some y ∧ leL ar [(.own 0), (.fn 162 [])] ∧ leH h [some (.arr 3 (.int .i64) a0)] ∧ r = slices_DeleteFunc___int_int__i1.res a0 y ∧ h1 = slices_DeleteFunc___int_int__i1.out a0 y
theorem slices_DeleteFunc___int_int__i1.call {ar : List AV} {h : List (Option LB)} {a0 : (List Int)} {y : ((List Int) × (List Int)) ⊕ ((List Int))} (H : slices_DeleteFunc___int_int__i1 a0 = some y) (h0 : leLk ar [(.own 0), (.fn 162 [])] (leHk h [some (.arr 3 (.int .i64) a0)])) : slices_DeleteFunc___int_int__i1.S ar h (slices_DeleteFunc___int_int__i1.res a0 y) (slices_DeleteFunc___int_int__i1.out a0 y) := ⟨a0, y, H, (args_ok h0).1, (args_ok h0).2, rfl, rfl⟩
set_option maxHeartbeats 100000000 in
set_option maxRecDepth 100000 in
theorem slices_DeleteFunc___int_int__i1.spec (a0 : (List Int)) (y : ((List Int) × (List Int)) ⊕ ((List Int))) (H : slices_DeleteFunc___int_int__i1 a0 = some y) : Spec Try.prog 160 [(.own 0), (.fn 162 [])] [some (.arr 3 (.int .i64) a0)] (slices_DeleteFunc___int_int__i1.res a0 y) (slices_DeleteFunc___int_int__i1.out a0 y) := by
  have hlen : Nat.ble ([some (.arr 3 (.int .i64) a0)] : List (Option LB)).length (slices_DeleteFunc___int_int__i1.out a0 y).length = true := by
    rcases y with y | y <;> rfl
  refine spec_intro (G32_ok.at tok [41]) (ct := [(10, some [0, 1, 5, 6]), (11, some [0, 5])]) Try.func160 rfl (by kernel_rfl) (by kernel_rfl) hlen ?_
  repeat' first
    | ((with_reducible refine eqg ?_); exact rfl)
    | ((with_reducible refine KOb.mk ?_); kernel_rfl)
    | ((with_reducible intro h); (repeat (first | replace H := grd_k H | replace H := out_step H (by assumption))); first | replace H := cond_t h H | replace H := cond_f h H | exact absurd h (by decide) | skip)
    | ((with_reducible refine Ob.mk ?_); first | (with_reducible rfl) | (first | ((repeat (first | (with_reducible exact grd_p H) | (replace H := grd_k H) | (replace H := out_step H (by assumption)))); done) | rfl | ((repeat (first | exact grd_p H | replace H := grd_k H | replace H := out_step H (by assumption))); done) | ((repeat (first | exact grd_p H | (have hp := grd_p H; exact hp) | replace H := grd_k H | replace H := out_step H (by assumption) | (replace H := bind_some H; obtain ⟨_, _, H⟩ := H))); done) | (repeat (first | exact grd_p H | replace H := grd_k H | replace H := out_step H (by assumption)))))
    | (with_reducible exact True.intro)
    | ((conv => whnf); first
        | (with_reducible refine And.intro ?_ ?_)
        | (with_reducible exact True.intro)
        | ((with_reducible refine Ob.mk ?_); first | (with_reducible rfl) | (first | ((repeat (first | (with_reducible exact grd_p H) | (replace H := grd_k H) | (replace H := out_step H (by assumption)))); done) | rfl | ((repeat (first | exact grd_p H | replace H := grd_k H | replace H := out_step H (by assumption))); done) | ((repeat (first | exact grd_p H | (have hp := grd_p H; exact hp) | replace H := grd_k H | replace H := out_step H (by assumption) | (replace H := bind_some H; obtain ⟨_, _, H⟩ := H))); done) | (repeat (first | exact grd_p H | replace H := grd_k H | replace H := out_step H (by assumption)))))
        | ((with_reducible refine CallW.mk ?_); (repeat (first | replace H := grd_k H | replace H := out_step H (by assumption))); replace H := bind_some H; obtain ⟨y, hy, H⟩ := H; first | ((with_reducible have hz : slices_IndexFunc___int_int__i1 _ = some y := hy); clear hz; refine Exists.intro _ (Exists.intro _ ⟨slices_IndexFunc___int_int__i1.call hy ?_, rfl, rfl, ?_⟩)) | ((with_reducible have hz : impl_voteOf_1 _ = some y := hy); clear hz; refine Exists.intro _ (Exists.intro _ ⟨impl_voteOf_1.call hy ?_, rfl, rfl, ?_⟩)))
        | ((repeat (first | replace H := grd_k H | replace H := out_step H (by assumption))); refine loop_iter (G32_ok.at tok [41]) (ct := [(10, some [0, 1, 5, 6]), (11, some [0, 5])]) (F := (fun s1 : Int × Int × (List Int) => ⟨sl [(0, (.own 0)), (1, (.fn 162 [])), (5, (.v (.int .i64 s1.1))), (6, (.v (.int .i64 s1.2.1)))], [some (.arr 3 (.int .i64) s1.2.2)]⟩)) (step := (fun s : Int × Int × (List Int) => slices_DeleteFunc___int_int__i1_loop1 s.1 s.2.1 s.2.2)) _ H (by kernel_rfl) (sub_auto ?_) ?_; rotate_left; (intro s1 r v hr H); rotate_right)
        | ((repeat (first | replace H := grd_k H | replace H := out_step H (by assumption))); refine again_step H (by assumption) (sub_auto ?_))
        | ((with_reducible refine fin_mk ?_); (repeat (first | replace H := grd_k H | replace H := out_step H (by assumption))); have H := Option.some.inj H; subst H))
    | constructor
  all_goals exact viewz _ _
def G33 : Env := G32.add 160 [true] slices_DeleteFunc___int_int__i1.S
theorem G33_ok : EnvOk Try.prog G33 := G32_ok.add ent_160 fun ar h r h1 ⟨a0, y, hy, e1, e2, e3, e4⟩ => by
  subst e3 e4; exact (slices_DeleteFunc___int_int__i1.spec a0 y hy).le e1 e2
attribute [local irreducible] slices_DeleteFunc___int_int__i1

noncomputable def impl_voteOf (a0 : (List Int)) : Option (Int × Bool) :=
  ((impl_within (a0.length : Int) (1 : Int) (5 : Int)).bind fun y1 => (cond (!y1) ((some ((0 : Int), false))) ((impl_allIn a0 ((-1) : Int) (60 : Int)).bind fun y2 => (cond (!y2) ((some ((0 : Int), false))) (((slices_Clone___int_int_ a0).bind fun y3 => ((slices_DeleteFunc___int_int__i1 y3).bind (Sum.elim (fun y5 => (some ((Tg.mk : Tg 1), y5.2))) (fun y6 => (some ((Tg.mk : Tg 1), y6)))))).bind fun z7 => (cond (decide ((w64 ((2 : Int) * (z7.2.length : Int))) < (a0.length : Int))) ((some ((60 : Int), true))) ((slices_Sort___int_int_ z7.2).bind fun y8 => (grd ((2 : Int) ≠ 0) (grd (0 ≤ (w64 (Int.tdiv (y8.length : Int) (2 : Int))) ∧ (w64 (Int.tdiv (y8.length : Int) (2 : Int))) < (y8.length : Int)) ((some ((y8.getD ((w64 (Int.tdiv (y8.length : Int) (2 : Int))).toNat) 0), true))))))))))))
def impl_voteOf.res (_ : (List Int)) (y : Int × Bool) : AV := (.tup [(.v (.int .i64 y.1)), (.bl y.2)])
def impl_voteOf.out (_ : (List Int)) (_ : Int × Bool) : List (Option LB) := []
def impl_voteOf.S (ar : List AV) (h : List (Option LB)) (r : AV) (h1 : List (Option LB)) : Prop := ∃ a0 y, impl_voteOf a0 = some y ∧ leL ar [(.tree (.int .i64) a0)] ∧ leH h [] ∧ r = impl_voteOf.res a0 y ∧ h1 = impl_voteOf.out a0 y
theorem impl_voteOf.call {ar : List AV} {h : List (Option LB)} {a0 : (List Int)} {y : Int × Bool} (H : impl_voteOf a0 = some y) (h0 : leLk ar [(.tree (.int .i64) a0)] (leHk h [])) : impl_voteOf.S ar h (impl_voteOf.res a0 y) (impl_voteOf.out a0 y) := ⟨a0, y, H, (args_ok h0).1, (args_ok h0).2, rfl, rfl⟩
set_option maxHeartbeats 100000000 in
set_option maxRecDepth 100000 in
theorem impl_voteOf.spec (a0 : (List Int)) (y : Int × Bool) (H : impl_voteOf a0 = some y) : Spec Try.prog 126 [(.tree (.int .i64) a0)] [] (impl_voteOf.res a0 y) (impl_voteOf.out a0 y) := by
  refine spec_intro (G33_ok.at tok []) (ct := [(5, none), (4, some [0, 4])]) Try.func126 rfl (by kernel_rfl) (by kernel_rfl) rfl ?_
  repeat' first
    | ((with_reducible refine eqg ?_); exact rfl)
    | ((with_reducible refine KOb.mk ?_); kernel_rfl)
    | ((with_reducible intro h); (repeat (first | replace H := grd_k H | replace H := out_step H (by assumption))); first | replace H := cond_t h H | replace H := cond_f h H | exact absurd h (by decide) | skip)
    | ((with_reducible refine Ob.mk ?_); first | (with_reducible rfl) | (first | ((repeat (first | (with_reducible exact grd_p H) | (replace H := grd_k H) | (replace H := out_step H (by assumption)))); done) | rfl | ((repeat (first | exact grd_p H | replace H := grd_k H | replace H := out_step H (by assumption))); done) | ((repeat (first | exact grd_p H | (have hp := grd_p H; exact hp) | replace H := grd_k H | replace H := out_step H (by assumption) | (replace H := bind_some H; obtain ⟨_, _, H⟩ := H))); done) | (repeat (first | exact grd_p H | replace H := grd_k H | replace H := out_step H (by assumption)))))
    | (with_reducible exact True.intro)
    | ((conv => whnf); first
        | (with_reducible refine And.intro ?_ ?_)
        | (with_reducible exact True.intro)
        | ((with_reducible refine Ob.mk ?_); first | (with_reducible rfl) | (first | ((repeat (first | (with_reducible exact grd_p H) | (replace H := grd_k H) | (replace H := out_step H (by assumption)))); done) | rfl | ((repeat (first | exact grd_p H | replace H := grd_k H | replace H := out_step H (by assumption))); done) | ((repeat (first | exact grd_p H | (have hp := grd_p H; exact hp) | replace H := grd_k H | replace H := out_step H (by assumption) | (replace H := bind_some H; obtain ⟨_, _, H⟩ := H))); done) | (repeat (first | exact grd_p H | replace H := grd_k H | replace H := out_step H (by assumption)))))
        | ((with_reducible refine CallW.mk ?_); (repeat (first | replace H := grd_k H | replace H := out_step H (by assumption))); replace H := bind_some H; obtain ⟨y, hy, H⟩ := H; first | ((with_reducible have hz : impl_within _ _ _ = some y := hy); clear hz; refine Exists.intro _ (Exists.intro _ ⟨impl_within.call hy ?_, rfl, rfl, ?_⟩)) | ((with_reducible have hz : impl_allIn _ _ _ = some y := hy); clear hz; refine Exists.intro _ (Exists.intro _ ⟨impl_allIn.call hy ?_, rfl, rfl, ?_⟩)) | ((with_reducible have hz : slices_Clone___int_int_ _ = some y := hy); clear hz; refine Exists.intro _ (Exists.intro _ ⟨slices_Clone___int_int_.call hy ?_, rfl, rfl, ?_⟩)) | ((with_reducible have hz : slices_DeleteFunc___int_int__i1 _ = some y := hy); clear hz; rcases y with y | y <;> refine Exists.intro _ (Exists.intro _ ⟨slices_DeleteFunc___int_int__i1.call hy ?_, rfl, rfl, ?_⟩)) | ((with_reducible have hz : slices_Sort___int_int_ _ = some y := hy); clear hz; refine Exists.intro _ (Exists.intro _ ⟨slices_Sort___int_int_.call hy ?_, rfl, rfl, ?_⟩)))
        | ((with_reducible refine cutAt (id := 5) ?_); (repeat (first | replace H := grd_k H | replace H := out_step H (by assumption))); first | (replace H := bind_some H; obtain ⟨z, hz, H⟩ := H; have hT : Tg 1 × (List Int) := z; clear hT; refine CutC.mk (id := 5) ⟨sl [(4, (.v (.int .i64 (a0.length : Int)))), (5, (.own 0))], [some (.arr 3 (.int .i64) z.2)]⟩ ?_ ?_; (replace H := hz)))
        | ((repeat (first | replace H := grd_k H | replace H := out_step H (by assumption))); have H := Option.some.inj H; subst H; with_reducible refine sub_auto ?_)
        | ((with_reducible refine fin_mk ?_); (repeat (first | replace H := grd_k H | replace H := out_step H (by assumption))); have H := Option.some.inj H; subst H))
    | constructor
def G34 : Env := G33.add 126 [] impl_voteOf.S
theorem G34_ok : EnvOk Try.prog G34 := G33_ok.add ent_126 fun ar h r h1 ⟨a0, y, hy, e1, e2, e3, e4⟩ => by
  subst e3 e4; exact (impl_voteOf.spec a0 y hy).le e1 e2
attribute [local irreducible] impl_voteOf

noncomputable def impl_VoteOf (a0 : (List Int)) : Option (Int × Bool) :=
  ((impl_voteOf a0).bind fun y1 => (some (y1.1, y1.2)))
def impl_VoteOf.res (_ : (List Int)) (y : Int × Bool) : AV := (.tup [(.v (.int .i64 y.1)), (.bl y.2)])
def impl_VoteOf.out (_ : (List Int)) (_ : Int × Bool) : List (Option LB) := []
def impl_VoteOf.S (ar : List AV) (h : List (Option LB)) (r : AV) (h1 : List (Option LB)) : Prop := ∃ a0 y, impl_VoteOf a0 = some y ∧ leL ar [(.tree (.int .i64) a0)] ∧ leH h [] ∧ r = impl_VoteOf.res a0 y ∧ h1 = impl_VoteOf.out a0 y
theorem impl_VoteOf.call {ar : List AV} {h : List (Option LB)} {a0 : (List Int)} {y : Int × Bool} (H : impl_VoteOf a0 = some y) (h0 : leLk ar [(.tree (.int .i64) a0)] (leHk h [])) : impl_VoteOf.S ar h (impl_VoteOf.res a0 y) (impl_VoteOf.out a0 y) := ⟨a0, y, H, (args_ok h0).1, (args_ok h0).2, rfl, rfl⟩
set_option maxHeartbeats 100000000 in
set_option maxRecDepth 100000 in
theorem impl_VoteOf.spec (a0 : (List Int)) (y : Int × Bool) (H : impl_VoteOf a0 = some y) : Spec Try.prog 64 [(.tree (.int .i64) a0)] [] (impl_VoteOf.res a0 y) (impl_VoteOf.out a0 y) := by
  refine spec_intro (G34_ok.at tok []) (ct := []) Try.func64 rfl (by kernel_rfl) (by kernel_rfl) rfl ?_
  repeat' first
    | ((with_reducible refine eqg ?_); exact rfl)
    | ((with_reducible refine KOb.mk ?_); kernel_rfl)
    | ((with_reducible intro h); (repeat (first | replace H := grd_k H | replace H := out_step H (by assumption))); first | replace H := cond_t h H | replace H := cond_f h H | exact absurd h (by decide) | skip)
    | ((with_reducible refine Ob.mk ?_); first | (with_reducible rfl) | (first | ((repeat (first | (with_reducible exact grd_p H) | (replace H := grd_k H) | (replace H := out_step H (by assumption)))); done) | rfl | ((repeat (first | exact grd_p H | replace H := grd_k H | replace H := out_step H (by assumption))); done) | ((repeat (first | exact grd_p H | (have hp := grd_p H; exact hp) | replace H := grd_k H | replace H := out_step H (by assumption) | (replace H := bind_some H; obtain ⟨_, _, H⟩ := H))); done) | (repeat (first | exact grd_p H | replace H := grd_k H | replace H := out_step H (by assumption)))))
    | (with_reducible exact True.intro)
    | ((conv => whnf); first
        | (with_reducible refine And.intro ?_ ?_)
        | (with_reducible exact True.intro)
        | ((with_reducible refine Ob.mk ?_); first | (with_reducible rfl) | (first | ((repeat (first | (with_reducible exact grd_p H) | (replace H := grd_k H) | (replace H := out_step H (by assumption)))); done) | rfl | ((repeat (first | exact grd_p H | replace H := grd_k H | replace H := out_step H (by assumption))); done) | ((repeat (first | exact grd_p H | (have hp := grd_p H; exact hp) | replace H := grd_k H | replace H := out_step H (by assumption) | (replace H := bind_some H; obtain ⟨_, _, H⟩ := H))); done) | (repeat (first | exact grd_p H | replace H := grd_k H | replace H := out_step H (by assumption)))))
        | ((with_reducible refine CallW.mk ?_); (repeat (first | replace H := grd_k H | replace H := out_step H (by assumption))); replace H := bind_some H; obtain ⟨y, hy, H⟩ := H; first | ((with_reducible have hz : impl_voteOf _ = some y := hy); clear hz; refine Exists.intro _ (Exists.intro _ ⟨impl_voteOf.call hy ?_, rfl, rfl, ?_⟩)))
        | ((with_reducible refine fin_mk ?_); (repeat (first | replace H := grd_k H | replace H := out_step H (by assumption))); have H := Option.some.inj H; subst H))
    | constructor
def G35 : Env := G34.add 64 [] impl_VoteOf.S
theorem G35_ok : EnvOk Try.prog G35 := G34_ok.add ent_64 fun ar h r h1 ⟨a0, y, hy, e1, e2, e3, e4⟩ => by
  subst e3 e4; exact (impl_VoteOf.spec a0 y hy).le e1 e2
attribute [local irreducible] impl_VoteOf

noncomputable def spec_l1In (a0 : Int) (a1 : Int) (a2 : Int) : Option (Bool) :=
  (cond (decide (a1 ≤ a0)) ((some (decide (a0 ≤ a2)))) ((some false)))
def spec_l1In.res (_ : Int) (_ : Int) (_ : Int) (y : Bool) : AV := (.bl y)
def spec_l1In.out (_ : Int) (_ : Int) (_ : Int) (_ : Bool) : List (Option LB) := []
def spec_l1In.S (ar : List AV) (h : List (Option LB)) (r : AV) (h1 : List (Option LB)) : Prop := ∃ a0 a1 a2 y, spec_l1In a0 a1 a2 = some y ∧ leL ar [(.v (.int .i64 a0)), (.v (.int .i64 a1)), (.v (.int .i64 a2))] ∧ leH h [] ∧ r = spec_l1In.res a0 a1 a2 y ∧ h1 = spec_l1In.out a0 a1 a2 y
theorem spec_l1In.call {ar : List AV} {h : List (Option LB)} {a0 : Int} {a1 : Int} {a2 : Int} {y : Bool} (H : spec_l1In a0 a1 a2 = some y) (h0 : leLk ar [(.v (.int .i64 a0)), (.v (.int .i64 a1)), (.v (.int .i64 a2))] (leHk h [])) : spec_l1In.S ar h (spec_l1In.res a0 a1 a2 y) (spec_l1In.out a0 a1 a2 y) := ⟨a0, a1, a2, y, H, (args_ok h0).1, (args_ok h0).2, rfl, rfl⟩
set_option maxHeartbeats 100000000 in
set_option maxRecDepth 100000 in
theorem spec_l1In.spec (a0 : Int) (a1 : Int) (a2 : Int) (y : Bool) (H : spec_l1In a0 a1 a2 = some y) : Spec Try.prog 103 [(.v (.int .i64 a0)), (.v (.int .i64 a1)), (.v (.int .i64 a2))] [] (spec_l1In.res a0 a1 a2 y) (spec_l1In.out a0 a1 a2 y) := by
  refine spec_intro (G35_ok.at tok []) (ct := []) Try.func103 rfl (by kernel_rfl) (by kernel_rfl) rfl ?_
  repeat' first
    | ((with_reducible refine eqg ?_); exact rfl)
    | ((with_reducible refine KOb.mk ?_); kernel_rfl)
    | ((with_reducible intro h); (repeat (first | replace H := grd_k H | replace H := out_step H (by assumption))); first | replace H := cond_t h H | replace H := cond_f h H | exact absurd h (by decide) | skip)
    | ((with_reducible refine Ob.mk ?_); first | (with_reducible rfl) | (first | ((repeat (first | (with_reducible exact grd_p H) | (replace H := grd_k H) | (replace H := out_step H (by assumption)))); done) | rfl | ((repeat (first | exact grd_p H | replace H := grd_k H | replace H := out_step H (by assumption))); done) | ((repeat (first | exact grd_p H | (have hp := grd_p H; exact hp) | replace H := grd_k H | replace H := out_step H (by assumption) | (replace H := bind_some H; obtain ⟨_, _, H⟩ := H))); done) | (repeat (first | exact grd_p H | replace H := grd_k H | replace H := out_step H (by assumption)))))
    | (with_reducible exact True.intro)
    | ((conv => whnf); first
        | (with_reducible refine And.intro ?_ ?_)
        | (with_reducible exact True.intro)
        | ((with_reducible refine Ob.mk ?_); first | (with_reducible rfl) | (first | ((repeat (first | (with_reducible exact grd_p H) | (replace H := grd_k H) | (replace H := out_step H (by assumption)))); done) | rfl | ((repeat (first | exact grd_p H | replace H := grd_k H | replace H := out_step H (by assumption))); done) | ((repeat (first | exact grd_p H | (have hp := grd_p H; exact hp) | replace H := grd_k H | replace H := out_step H (by assumption) | (replace H := bind_some H; obtain ⟨_, _, H⟩ := H))); done) | (repeat (first | exact grd_p H | replace H := grd_k H | replace H := out_step H (by assumption)))))
        | ((with_reducible refine fin_mk ?_); (repeat (first | replace H := grd_k H | replace H := out_step H (by assumption))); have H := Option.some.inj H; subst H))
    | constructor
def G36 : Env := G35.add 103 [] spec_l1In.S
theorem G36_ok : EnvOk Try.prog G36 := G35_ok.add ent_103 fun ar h r h1 ⟨a0, a1, a2, y, hy, e1, e2, e3, e4⟩ => by
  subst e3 e4; exact (spec_l1In.spec a0 a1 a2 y hy).le e1 e2
attribute [local irreducible] spec_l1In

end Go.Proofs.Ytpopcdnjnligiaa
