/-
  Contracts, printed by a program.
-/
import Derived.Test.YtpopcdnjnligiaaC603
namespace Go.Proofs.Ytpopcdnjnligiaa
open Go.RowKit
attribute [local irreducible] Ob loopwp Sub Spec Fin Again CallW CutC KOb iter joinx outm

attribute [local irreducible] laws_vBig spec_l1Cur_next spec_l1Cur_pick spec_l1Cur_among spec_l1Cur_sensors spec_DrawVoteOf impl_within impl_allIn slices_Clone___int_int_ impl_voteOf_1 math_bits_Len32 math_bits_Len64 math_bits_Len cmp_isNaN_int_ cmp_Less_int_ slices_insertionSortOrdered_int_ slices_siftDownOrdered_int_ slices_heapSortOrdered_int_ slices_nextPowerOfTwo slices_xorshift_Next slices_breakPatternsOrdered_int_ slices_order2Ordered_int_ slices_medianOrdered_int_ slices_medianAdjacentOrdered_int_ slices_choosePivotOrdered_int_ slices_reverseRangeOrdered_int_ slices_partialInsertionSortOrdered_int_ slices_partitionEqualOrdered_int_ slices_partitionOrdered_int_ slices_pdqsortOrdered_int_ slices_Sort___int_int_ slices_IndexFunc___int_int__i1 slices_DeleteFunc___int_int__i1 impl_voteOf impl_VoteOf spec_l1In

noncomputable def spec_l12Sensors_loop1 (a0 : (List Int)) (v4 : Int) : Option (Lp (Int) ((Unit) ⊕ (Unit))) :=
  (cond (decide (v4 < (a0.length : Int))) (grd (0 ≤ v4 ∧ v4 < (a0.length : Int)) ((spec_l1In (a0.getD v4.toNat 0) ((-1) : Int) (60 : Int)).bind fun y5 => (cond (!y5) ((some (.out (Sum.inl ())))) (some (.go (w64 (v4 + (1 : Int)))))))) ((some (.out (Sum.inr ())))))
noncomputable def spec_l12Sensors (a0 : (List Int)) : Option (Bool) :=
  ((iter (fun s => spec_l12Sensors_loop1 a0 s) (0 : Int)).bind (Sum.elim (fun _ => (some false)) (fun _ => ((spec_l1In (a0.length : Int) (1 : Int) (5 : Int)).bind fun y9 => (some y9)))))
def spec_l12Sensors.res (_ : (List Int)) (y : Bool) : AV := (.bl y)
def spec_l12Sensors.out (_ : (List Int)) (_ : Bool) : List (Option LB) := []
def spec_l12Sensors.S (ar : List AV) (h : List (Option LB)) (r : AV) (h1 : List (Option LB)) : Prop := ∃ a0 y, spec_l12Sensors a0 = some y ∧ leL ar [(.tree (.int .i64) a0)] ∧ leH h [] ∧ r = spec_l12Sensors.res a0 y ∧ h1 = spec_l12Sensors.out a0 y
theorem spec_l12Sensors.call {ar : List AV} {h : List (Option LB)} {a0 : (List Int)} {y : Bool} (H : spec_l12Sensors a0 = some y) (h0 : leLk ar [(.tree (.int .i64) a0)] (leHk h [])) : spec_l12Sensors.S ar h (spec_l12Sensors.res a0 y) (spec_l12Sensors.out a0 y) := ⟨a0, y, H, (args_ok h0).1, (args_ok h0).2, rfl, rfl⟩
set_option maxHeartbeats 100000000 in
set_option maxRecDepth 100000 in
theorem spec_l12Sensors.spec (a0 : (List Int)) (y : Bool) (H : spec_l12Sensors a0 = some y) : Spec Try.prog 127 [(.tree (.int .i64) a0)] [] (spec_l12Sensors.res a0 y) (spec_l12Sensors.out a0 y) := by
  refine spec_intro (G36_ok.at tok []) (ct := []) Try.func127 rfl (by kernel_rfl) (by kernel_rfl) rfl ?_
  repeat' first
    | ((with_reducible refine eqg ?_); exact rfl)
    | ((with_reducible refine KOb.mk ?_); kernel_rfl)
    | ((with_reducible intro h); (repeat (first | replace H := grd_k H | replace H := out_step H (by assumption))); first | replace H := cond_t h H | replace H := cond_f h H | exact absurd h (by decide) | skip)
    | ((with_reducible refine Ob.mk ?_); first | (with_reducible rfl) | (first | ((repeat (first | (with_reducible exact grd_p H) | (replace H := grd_k H) | (replace H := out_step H (by assumption)))); done) | rfl | ((repeat (first | exact grd_p H | replace H := grd_k H | replace H := out_step H (by assumption))); done) | ((repeat (first | exact grd_p H | (have hp := grd_p H; exact hp) | replace H := grd_k H | replace H := out_step H (by assumption) | (replace H := bind_some H; obtain ⟨_, _, H⟩ := H))); done) | (repeat (first | exact grd_p H | replace H := grd_k H | replace H := out_step H (by assumption)))))
    | (with_reducible exact True.intro)
    | ((conv => whnf); first
        | (with_reducible refine And.intro ?_ ?_)
        | (with_reducible exact True.intro)
        | ((with_reducible refine Ob.mk ?_); first | (with_reducible rfl) | (first | ((repeat (first | (with_reducible exact grd_p H) | (replace H := grd_k H) | (replace H := out_step H (by assumption)))); done) | rfl | ((repeat (first | exact grd_p H | replace H := grd_k H | replace H := out_step H (by assumption))); done) | ((repeat (first | exact grd_p H | (have hp := grd_p H; exact hp) | replace H := grd_k H | replace H := out_step H (by assumption) | (replace H := bind_some H; obtain ⟨_, _, H⟩ := H))); done) | (repeat (first | exact grd_p H | replace H := grd_k H | replace H := out_step H (by assumption)))))
        | ((with_reducible refine CallW.mk ?_); (repeat (first | replace H := grd_k H | replace H := out_step H (by assumption))); replace H := bind_some H; obtain ⟨y, hy, H⟩ := H; first | ((with_reducible have hz : spec_l1In _ _ _ = some y := hy); clear hz; refine Exists.intro _ (Exists.intro _ ⟨spec_l1In.call hy ?_, rfl, rfl, ?_⟩)))
        | ((repeat (first | replace H := grd_k H | replace H := out_step H (by assumption))); refine loop_iter (G36_ok.at tok []) (ct := []) (F := (fun s1 : Int => ⟨sl [(0, (.tree (.int .i64) a0)), (3, (.v (.int .i64 s1)))], []⟩)) (step := (fun s : Int => spec_l12Sensors_loop1 _ s)) _ H (by kernel_rfl) (sub_auto ?_) ?_; rotate_left; (intro s1 r v hr H); rotate_right)
        | ((repeat (first | replace H := grd_k H | replace H := out_step H (by assumption))); refine again_step H (by assumption) (sub_auto ?_))
        | ((with_reducible refine fin_mk ?_); (repeat (first | replace H := grd_k H | replace H := out_step H (by assumption))); have H := Option.some.inj H; subst H))
    | constructor
def G37 : Env := G36.add 127 [] spec_l12Sensors.S
theorem G37_ok : EnvOk Try.prog G37 := G36_ok.add ent_127 fun ar h r h1 ⟨a0, y, hy, e1, e2, e3, e4⟩ => by
  subst e3 e4; exact (spec_l12Sensors.spec a0 y hy).le e1 e2
attribute [local irreducible] spec_l12Sensors

noncomputable def spec_l12Of_loop2 (a0 : (List Int)) (v24 : Int) (v25 : (List Int)) (v27 : Int) : Option (Lp (Int) ((Int × Int × Int × Int × Bool) ⊕ (Int))) :=
  (cond (decide ((0 : Int) < v27)) (grd (0 ≤ (w64 (v27 - (1 : Int))) ∧ (w64 (v27 - (1 : Int))) < (v25.length : Int)) (grd (0 ≤ v24 ∧ v24 < (a0.length : Int)) (cond (decide ((a0.getD v24.toNat 0) < (v25.getD ((w64 (v27 - (1 : Int))).toNat) 0))) (some (.go (w64 (v27 - (1 : Int))))) ((some (.out (Sum.inl (v27, v27, (w64 (v27 - (1 : Int))), (v25.getD ((w64 (v27 - (1 : Int))).toNat) 0), (decide ((a0.getD v24.toNat 0) < (v25.getD ((w64 (v27 - (1 : Int))).toNat) 0))))))))))) ((some (.out (Sum.inr v27)))))
noncomputable def spec_l12Of_loop1 (a0 : (List Int)) (v24 : Int) (v25 : (List Int)) : Option (Lp (Int × (List Int)) (((List Int)))) :=
  (cond (decide (v24 < (a0.length : Int))) (grd (0 ≤ v24 ∧ v24 < (a0.length : Int)) (cond (decide ((a0.getD v24.toNat 0) < (0 : Int))) (some (.go ((w64 (v24 + (1 : Int))), v25))) ((iter (fun s => spec_l12Of_loop2 a0 v24 v25 s) (v25.length : Int)).bind (Sum.elim (fun r29 => (grd (0 ≤ (0 : Int) ∧ (0 : Int) ≤ r29.1 ∧ r29.1 ≤ (v25.length : Int)) (grd (([] : List Int).length + ((v25.drop ((0 : Int).toNat)).take ((r29.1 - (0 : Int)).toNat)).length ≤ 140737488355328 / 8 ∧ ([] : List Int).length + ((v25.drop ((0 : Int).toNat)).take ((r29.1 - (0 : Int)).toNat)).length ≤ 140737488355328) (grd (0 ≤ v24 ∧ v24 < (a0.length : Int)) (grd ((([] : List Int) ++ ((v25.drop ((0 : Int).toNat)).take ((r29.1 - (0 : Int)).toNat))).length + [(a0.getD v24.toNat 0)].length ≤ 140737488355328 / 8 ∧ (([] : List Int) ++ ((v25.drop ((0 : Int).toNat)).take ((r29.1 - (0 : Int)).toNat))).length + [(a0.getD v24.toNat 0)].length ≤ 140737488355328) (grd (0 ≤ r29.1 ∧ r29.1 ≤ (v25.length : Int) ∧ (v25.length : Int) ≤ (v25.length : Int)) (grd (((([] : List Int) ++ ((v25.drop ((0 : Int).toNat)).take ((r29.1 - (0 : Int)).toNat))) ++ [(a0.getD v24.toNat 0)]).length + ((v25.drop r29.1.toNat).take (((v25.length : Int) - r29.1).toNat)).length ≤ 140737488355328 / 8 ∧ ((([] : List Int) ++ ((v25.drop ((0 : Int).toNat)).take ((r29.1 - (0 : Int)).toNat))) ++ [(a0.getD v24.toNat 0)]).length + ((v25.drop r29.1.toNat).take (((v25.length : Int) - r29.1).toNat)).length ≤ 140737488355328) (some (.go ((w64 (v24 + (1 : Int))), (((([] : List Int) ++ ((v25.drop ((0 : Int).toNat)).take ((r29.1 - (0 : Int)).toNat))) ++ [(a0.getD v24.toNat 0)]) ++ ((v25.drop r29.1.toNat).take (((v25.length : Int) - r29.1).toNat))))))))))))) (fun r30 => (grd (0 ≤ (0 : Int) ∧ (0 : Int) ≤ r30 ∧ r30 ≤ (v25.length : Int)) (grd (([] : List Int).length + ((v25.drop ((0 : Int).toNat)).take ((r30 - (0 : Int)).toNat)).length ≤ 140737488355328 / 8 ∧ ([] : List Int).length + ((v25.drop ((0 : Int).toNat)).take ((r30 - (0 : Int)).toNat)).length ≤ 140737488355328) (grd (0 ≤ v24 ∧ v24 < (a0.length : Int)) (grd ((([] : List Int) ++ ((v25.drop ((0 : Int).toNat)).take ((r30 - (0 : Int)).toNat))).length + [(a0.getD v24.toNat 0)].length ≤ 140737488355328 / 8 ∧ (([] : List Int) ++ ((v25.drop ((0 : Int).toNat)).take ((r30 - (0 : Int)).toNat))).length + [(a0.getD v24.toNat 0)].length ≤ 140737488355328) (grd (0 ≤ r30 ∧ r30 ≤ (v25.length : Int) ∧ (v25.length : Int) ≤ (v25.length : Int)) (grd (((([] : List Int) ++ ((v25.drop ((0 : Int).toNat)).take ((r30 - (0 : Int)).toNat))) ++ [(a0.getD v24.toNat 0)]).length + ((v25.drop r30.toNat).take (((v25.length : Int) - r30).toNat)).length ≤ 140737488355328 / 8 ∧ ((([] : List Int) ++ ((v25.drop ((0 : Int).toNat)).take ((r30 - (0 : Int)).toNat))) ++ [(a0.getD v24.toNat 0)]).length + ((v25.drop r30.toNat).take (((v25.length : Int) - r30).toNat)).length ≤ 140737488355328) (some (.go ((w64 (v24 + (1 : Int))), (((([] : List Int) ++ ((v25.drop ((0 : Int).toNat)).take ((r30 - (0 : Int)).toNat))) ++ [(a0.getD v24.toNat 0)]) ++ ((v25.drop r30.toNat).take (((v25.length : Int) - r30).toNat))))))))))))))))) ((some (.out v25))))
noncomputable def spec_l12Of (a0 : (List Int)) : Option (Int) :=
  ((iter (fun s => spec_l12Of_loop1 a0 s.1 s.2) ((0 : Int), ([] : List Int))).bind (fun r31 => (cond (decide ((w64 ((2 : Int) * (r31.length : Int))) < (a0.length : Int))) ((some (60 : Int))) (cond (decide ((r31.length : Int) = (0 : Int))) ((some (60 : Int))) (grd ((2 : Int) ≠ 0) (grd (0 ≤ (w64 (Int.tdiv (r31.length : Int) (2 : Int))) ∧ (w64 (Int.tdiv (r31.length : Int) (2 : Int))) < (r31.length : Int)) ((some (r31.getD ((w64 (Int.tdiv (r31.length : Int) (2 : Int))).toNat) 0)))))))))
def spec_l12Of.res (_ : (List Int)) (y : Int) : AV := (.v (.int .i64 y))
def spec_l12Of.out (_ : (List Int)) (_ : Int) : List (Option LB) := []
def spec_l12Of.S (ar : List AV) (h : List (Option LB)) (r : AV) (h1 : List (Option LB)) : Prop := ∃ a0 y, spec_l12Of a0 = some y ∧ leL ar [(.tree (.int .i64) a0)] ∧ leH h [] ∧ r = spec_l12Of.res a0 y ∧ h1 = spec_l12Of.out a0 y
theorem spec_l12Of.call {ar : List AV} {h : List (Option LB)} {a0 : (List Int)} {y : Int} (H : spec_l12Of a0 = some y) (h0 : leLk ar [(.tree (.int .i64) a0)] (leHk h [])) : spec_l12Of.S ar h (spec_l12Of.res a0 y) (spec_l12Of.out a0 y) := ⟨a0, y, H, (args_ok h0).1, (args_ok h0).2, rfl, rfl⟩
set_option maxHeartbeats 100000000 in
set_option maxRecDepth 100000 in
theorem spec_l12Of.spec (a0 : (List Int)) (y : Int) (H : spec_l12Of a0 = some y) : Spec Try.prog 128 [(.tree (.int .i64) a0)] [] (spec_l12Of.res a0 y) (spec_l12Of.out a0 y) := by
  refine spec_intro (G37_ok.at tok []) (ct := [(4, some [0, 3, 4, 23, 24, 25, 26, 27, 28, 29, 30, 31, 32, 58, 59, 60]), (8, some [0, 3, 4, 5, 23, 24, 25, 26, 27, 28, 29, 30, 31, 32, 58, 59, 60]), (9, some [0, 3, 4, 5, 23, 24, 25, 26, 27, 28, 29, 30, 31, 32, 58, 59, 60]), (11, some [3, 61])]) Try.func128 rfl (by kernel_rfl) (by kernel_rfl) rfl ?_
  repeat' first
    | ((with_reducible refine eqg ?_); exact rfl)
    | ((with_reducible refine KOb.mk ?_); kernel_rfl)
    | ((with_reducible intro h); (repeat (first | replace H := grd_k H | replace H := out_step H (by assumption))); first | replace H := cond_t h H | replace H := cond_f h H | exact absurd h (by decide) | skip)
    | ((with_reducible refine Ob.mk ?_); first | (with_reducible rfl) | (first | ((repeat (first | (with_reducible exact grd_p H) | (replace H := grd_k H) | (replace H := out_step H (by assumption)))); done) | rfl | ((repeat (first | exact grd_p H | replace H := grd_k H | replace H := out_step H (by assumption))); done) | ((repeat (first | exact grd_p H | (have hp := grd_p H; exact hp) | replace H := grd_k H | replace H := out_step H (by assumption) | (replace H := bind_some H; obtain ⟨_, _, H⟩ := H))); done) | (repeat (first | exact grd_p H | replace H := grd_k H | replace H := out_step H (by assumption)))))
    | (with_reducible exact True.intro)
    | ((conv => whnf); first
        | (with_reducible refine And.intro ?_ ?_)
        | (with_reducible exact True.intro)
        | ((with_reducible refine Ob.mk ?_); first | (with_reducible rfl) | (first | ((repeat (first | (with_reducible exact grd_p H) | (replace H := grd_k H) | (replace H := out_step H (by assumption)))); done) | rfl | ((repeat (first | exact grd_p H | replace H := grd_k H | replace H := out_step H (by assumption))); done) | ((repeat (first | exact grd_p H | (have hp := grd_p H; exact hp) | replace H := grd_k H | replace H := out_step H (by assumption) | (replace H := bind_some H; obtain ⟨_, _, H⟩ := H))); done) | (repeat (first | exact grd_p H | replace H := grd_k H | replace H := out_step H (by assumption)))))
        | ((repeat (first | replace H := grd_k H | replace H := out_step H (by assumption))); refine loop_iter (G37_ok.at tok []) (ct := [(4, some [0, 3, 4, 23, 24, 25, 26, 27, 28, 29, 30, 31, 32, 58, 59, 60]), (8, some [0, 3, 4, 5, 23, 24, 25, 26, 27, 28, 29, 30, 31, 32, 58, 59, 60]), (9, some [0, 3, 4, 5, 23, 24, 25, 26, 27, 28, 29, 30, 31, 32, 58, 59, 60]), (11, some [3, 61])]) (F := (fun s1 : Int × (List Int) => ⟨sl [(0, (.tree (.int .i64) a0)), (3, (.own 0)), (4, (.v (.int .i64 s1.1)))], [some (.arr 3 (.int .i64) s1.2)]⟩)) (step := (fun s : Int × (List Int) => spec_l12Of_loop1 _ s.1 s.2)) _ H (by kernel_rfl) (sub_auto ?_) ?_; rotate_left; (intro s1 r v hr H); rotate_right)
        | ((repeat (first | replace H := grd_k H | replace H := out_step H (by assumption))); refine loop_iter (G37_ok.at tok []) (ct := [(4, some [0, 3, 4, 23, 24, 25, 26, 27, 28, 29, 30, 31, 32, 58, 59, 60]), (8, some [0, 3, 4, 5, 23, 24, 25, 26, 27, 28, 29, 30, 31, 32, 58, 59, 60]), (9, some [0, 3, 4, 5, 23, 24, 25, 26, 27, 28, 29, 30, 31, 32, 58, 59, 60]), (11, some [3, 61])]) (F := (fun s2 : Int => ⟨sl [(0, (.tree (.int .i64) a0)), (3, (.own 0)), (4, (.v (.int .i64 s1.1))), (5, (.v (.int .i64 s2)))], [some (.arr 3 (.int .i64) s1.2)]⟩)) (step := (fun s : Int => spec_l12Of_loop2 _ _ _ s)) _ H (by kernel_rfl) (sub_auto ?_) ?_; rotate_left; (intro s2 r v hr H); rotate_right)
        | ((repeat (first | replace H := grd_k H | replace H := out_step H (by assumption))); refine again_step H (by assumption) (sub_auto ?_))
        | ((with_reducible refine fin_mk ?_); (repeat (first | replace H := grd_k H | replace H := out_step H (by assumption))); have H := Option.some.inj H; subst H))
    | constructor
def G38 : Env := G37.add 128 [] spec_l12Of.S
theorem G38_ok : EnvOk Try.prog G38 := G37_ok.add ent_128 fun ar h r h1 ⟨a0, y, hy, e1, e2, e3, e4⟩ => by
  subst e3 e4; exact (spec_l12Of.spec a0 y hy).le e1 e2
attribute [local irreducible] spec_l12Of

noncomputable def spec_VoteOf (a0 : (List Int)) : Option (Int × Bool) :=
  ((spec_l12Sensors a0).bind fun y1 => (cond (!y1) ((some ((0 : Int), false))) ((spec_l12Of a0).bind fun y2 => (some (y2, true)))))
def spec_VoteOf.res (_ : (List Int)) (y : Int × Bool) : AV := (.tup [(.v (.int .i64 y.1)), (.bl y.2)])
def spec_VoteOf.out (_ : (List Int)) (_ : Int × Bool) : List (Option LB) := []
def spec_VoteOf.S (ar : List AV) (h : List (Option LB)) (r : AV) (h1 : List (Option LB)) : Prop := ∃ a0 y, spec_VoteOf a0 = some y ∧ leL ar [(.tree (.int .i64) a0)] ∧ leH h [] ∧ r = spec_VoteOf.res a0 y ∧ h1 = spec_VoteOf.out a0 y
theorem spec_VoteOf.call {ar : List AV} {h : List (Option LB)} {a0 : (List Int)} {y : Int × Bool} (H : spec_VoteOf a0 = some y) (h0 : leLk ar [(.tree (.int .i64) a0)] (leHk h [])) : spec_VoteOf.S ar h (spec_VoteOf.res a0 y) (spec_VoteOf.out a0 y) := ⟨a0, y, H, (args_ok h0).1, (args_ok h0).2, rfl, rfl⟩
set_option maxHeartbeats 100000000 in
set_option maxRecDepth 100000 in
theorem spec_VoteOf.spec (a0 : (List Int)) (y : Int × Bool) (H : spec_VoteOf a0 = some y) : Spec Try.prog 65 [(.tree (.int .i64) a0)] [] (spec_VoteOf.res a0 y) (spec_VoteOf.out a0 y) := by
  refine spec_intro (G38_ok.at tok []) (ct := []) Try.func65 rfl (by kernel_rfl) (by kernel_rfl) rfl ?_
  repeat' first
    | ((with_reducible refine eqg ?_); exact rfl)
    | ((with_reducible refine KOb.mk ?_); kernel_rfl)
    | ((with_reducible intro h); (repeat (first | replace H := grd_k H | replace H := out_step H (by assumption))); first | replace H := cond_t h H | replace H := cond_f h H | exact absurd h (by decide) | skip)
    | ((with_reducible refine Ob.mk ?_); first | (with_reducible rfl) | (first | ((repeat (first | (with_reducible exact grd_p H) | (replace H := grd_k H) | (replace H := out_step H (by assumption)))); done) | rfl | ((repeat (first | exact grd_p H | replace H := grd_k H | replace H := out_step H (by assumption))); done) | ((repeat (first | exact grd_p H | (have hp := grd_p H; exact hp) | replace H := grd_k H | replace H := out_step H (by assumption) | (replace H := bind_some H; obtain ⟨_, _, H⟩ := H))); done) | (repeat (first | exact grd_p H | replace H := grd_k H | replace H := out_step H (by assumption)))))
    | (with_reducible exact True.intro)
    | ((conv => whnf); first
        | (with_reducible refine And.intro ?_ ?_)
        | (with_reducible exact True.intro)
        | ((with_reducible refine Ob.mk ?_); first | (with_reducible rfl) | (first | ((repeat (first | (with_reducible exact grd_p H) | (replace H := grd_k H) | (replace H := out_step H (by assumption)))); done) | rfl | ((repeat (first | exact grd_p H | replace H := grd_k H | replace H := out_step H (by assumption))); done) | ((repeat (first | exact grd_p H | (have hp := grd_p H; exact hp) | replace H := grd_k H | replace H := out_step H (by assumption) | (replace H := bind_some H; obtain ⟨_, _, H⟩ := H))); done) | (repeat (first | exact grd_p H | replace H := grd_k H | replace H := out_step H (by assumption)))))
        | ((with_reducible refine CallW.mk ?_); (repeat (first | replace H := grd_k H | replace H := out_step H (by assumption))); replace H := bind_some H; obtain ⟨y, hy, H⟩ := H; first | ((with_reducible have hz : spec_l12Sensors _ = some y := hy); clear hz; refine Exists.intro _ (Exists.intro _ ⟨spec_l12Sensors.call hy ?_, rfl, rfl, ?_⟩)) | ((with_reducible have hz : spec_l12Of _ = some y := hy); clear hz; refine Exists.intro _ (Exists.intro _ ⟨spec_l12Of.call hy ?_, rfl, rfl, ?_⟩)))
        | ((with_reducible refine fin_mk ?_); (repeat (first | replace H := grd_k H | replace H := out_step H (by assumption))); have H := Option.some.inj H; subst H))
    | constructor
def G39 : Env := G38.add 65 [] spec_VoteOf.S
theorem G39_ok : EnvOk Try.prog G39 := G38_ok.add ent_65 fun ar h r h1 ⟨a0, y, hy, e1, e2, e3, e4⟩ => by
  subst e3 e4; exact (spec_VoteOf.spec a0 y hy).le e1 e2
attribute [local irreducible] spec_VoteOf

noncomputable def laws_vHas_loop1 (a0 : (List Int)) (a1 : Int) (v2 : Int) : Option (Lp (Int) ((Unit) ⊕ (Unit))) :=
  (cond (decide (v2 < (a0.length : Int))) (grd (0 ≤ v2 ∧ v2 < (a0.length : Int)) (cond (decide ((a0.getD v2.toNat 0) = a1)) ((some (.out (Sum.inl ())))) (some (.go (w64 (v2 + (1 : Int))))))) ((some (.out (Sum.inr ())))))
noncomputable def laws_vHas (a0 : (List Int)) (a1 : Int) : Option (Bool) :=
  ((iter (fun s => laws_vHas_loop1 a0 a1 s) (0 : Int)).bind (Sum.elim (fun _ => (some true)) (fun _ => (some false))))
def laws_vHas.res (_ : (List Int)) (_ : Int) (y : Bool) : AV := (.bl y)
def laws_vHas.out (_ : (List Int)) (_ : Int) (_ : Bool) : List (Option LB) := []
def laws_vHas.S (ar : List AV) (h : List (Option LB)) (r : AV) (h1 : List (Option LB)) : Prop := ∃ a0 a1 y, laws_vHas a0 a1 = some y ∧ leL ar [(.tree (.int .i64) a0), (.v (.int .i64 a1))] ∧ leH h [] ∧ r = laws_vHas.res a0 a1 y ∧ h1 = laws_vHas.out a0 a1 y
theorem laws_vHas.call {ar : List AV} {h : List (Option LB)} {a0 : (List Int)} {a1 : Int} {y : Bool} (H : laws_vHas a0 a1 = some y) (h0 : leLk ar [(.tree (.int .i64) a0), (.v (.int .i64 a1))] (leHk h [])) : laws_vHas.S ar h (laws_vHas.res a0 a1 y) (laws_vHas.out a0 a1 y) := ⟨a0, a1, y, H, (args_ok h0).1, (args_ok h0).2, rfl, rfl⟩
set_option maxHeartbeats 100000000 in
set_option maxRecDepth 100000 in
theorem laws_vHas.spec (a0 : (List Int)) (a1 : Int) (y : Bool) (H : laws_vHas a0 a1 = some y) : Spec Try.prog 66 [(.tree (.int .i64) a0), (.v (.int .i64 a1))] [] (laws_vHas.res a0 a1 y) (laws_vHas.out a0 a1 y) := by
  refine spec_intro (G39_ok.at tok []) (ct := []) Try.func66 rfl (by kernel_rfl) (by kernel_rfl) rfl ?_
  repeat' first
    | ((with_reducible refine eqg ?_); exact rfl)
    | ((with_reducible refine KOb.mk ?_); kernel_rfl)
    | ((with_reducible intro h); (repeat (first | replace H := grd_k H | replace H := out_step H (by assumption))); first | replace H := cond_t h H | replace H := cond_f h H | exact absurd h (by decide) | skip)
    | ((with_reducible refine Ob.mk ?_); first | (with_reducible rfl) | (first | ((repeat (first | (with_reducible exact grd_p H) | (replace H := grd_k H) | (replace H := out_step H (by assumption)))); done) | rfl | ((repeat (first | exact grd_p H | replace H := grd_k H | replace H := out_step H (by assumption))); done) | ((repeat (first | exact grd_p H | (have hp := grd_p H; exact hp) | replace H := grd_k H | replace H := out_step H (by assumption) | (replace H := bind_some H; obtain ⟨_, _, H⟩ := H))); done) | (repeat (first | exact grd_p H | replace H := grd_k H | replace H := out_step H (by assumption)))))
    | (with_reducible exact True.intro)
    | ((conv => whnf); first
        | (with_reducible refine And.intro ?_ ?_)
        | (with_reducible exact True.intro)
        | ((with_reducible refine Ob.mk ?_); first | (with_reducible rfl) | (first | ((repeat (first | (with_reducible exact grd_p H) | (replace H := grd_k H) | (replace H := out_step H (by assumption)))); done) | rfl | ((repeat (first | exact grd_p H | replace H := grd_k H | replace H := out_step H (by assumption))); done) | ((repeat (first | exact grd_p H | (have hp := grd_p H; exact hp) | replace H := grd_k H | replace H := out_step H (by assumption) | (replace H := bind_some H; obtain ⟨_, _, H⟩ := H))); done) | (repeat (first | exact grd_p H | replace H := grd_k H | replace H := out_step H (by assumption)))))
        | ((repeat (first | replace H := grd_k H | replace H := out_step H (by assumption))); refine loop_iter (G39_ok.at tok []) (ct := []) (F := (fun s1 : Int => ⟨sl [(0, (.tree (.int .i64) a0)), (1, (.v (.int .i64 a1))), (5, (.v (.int .i64 s1)))], []⟩)) (step := (fun s : Int => laws_vHas_loop1 _ _ s)) _ H (by kernel_rfl) (sub_auto ?_) ?_; rotate_left; (intro s1 r v hr H); rotate_right)
        | ((repeat (first | replace H := grd_k H | replace H := out_step H (by assumption))); refine again_step H (by assumption) (sub_auto ?_))
        | ((with_reducible refine fin_mk ?_); (repeat (first | replace H := grd_k H | replace H := out_step H (by assumption))); have H := Option.some.inj H; subst H))
    | constructor
def G40 : Env := G39.add 66 [] laws_vHas.S
theorem G40_ok : EnvOk Try.prog G40 := G39_ok.add ent_66 fun ar h r h1 ⟨a0, a1, y, hy, e1, e2, e3, e4⟩ => by
  subst e3 e4; exact (laws_vHas.spec a0 a1 y hy).le e1 e2
attribute [local irreducible] laws_vHas

noncomputable def spec_DrawBrokenSensors (a0 : (List Int)) : Option ((List Int) × Int) :=
  ((spec_l1Cur_sensors (a0, (0 : Int), (0 : Int), ())).bind fun y1 => ((spec_l1Cur_among (y1.2.1, y1.2.2.1, y1.2.2.2.1, ()) [(0 : Int), (1 : Int), (3 : Int), (10 : Int), ((-1) : Int)]).bind fun y2 => (some (y1.1, y2.1))))
def spec_DrawBrokenSensors.res (_ : (List Int)) (y : (List Int) × Int) : AV := (.tup [(.own 0), (.v (.int .i64 y.2))])
def spec_DrawBrokenSensors.out (_ : (List Int)) (y : (List Int) × Int) : List (Option LB) := [some (.arr 3 (.int .i64) y.1)]
def spec_DrawBrokenSensors.S (ar : List AV) (h : List (Option LB)) (r : AV) (h1 : List (Option LB)) : Prop := ∃ a0 y, spec_DrawBrokenSensors a0 = some y ∧ leL ar [(.tree (.int .u8) a0)] ∧ leH h [] ∧ r = spec_DrawBrokenSensors.res a0 y ∧ h1 = spec_DrawBrokenSensors.out a0 y
theorem spec_DrawBrokenSensors.call {ar : List AV} {h : List (Option LB)} {a0 : (List Int)} {y : (List Int) × Int} (H : spec_DrawBrokenSensors a0 = some y) (h0 : leLk ar [(.tree (.int .u8) a0)] (leHk h [])) : spec_DrawBrokenSensors.S ar h (spec_DrawBrokenSensors.res a0 y) (spec_DrawBrokenSensors.out a0 y) := ⟨a0, y, H, (args_ok h0).1, (args_ok h0).2, rfl, rfl⟩
set_option maxHeartbeats 100000000 in
set_option maxRecDepth 100000 in
theorem spec_DrawBrokenSensors.spec (a0 : (List Int)) (y : (List Int) × Int) (H : spec_DrawBrokenSensors a0 = some y) : Spec Try.prog 67 [(.tree (.int .u8) a0)] [] (spec_DrawBrokenSensors.res a0 y) (spec_DrawBrokenSensors.out a0 y) := by
  refine spec_intro (G40_ok.at tok []) (ct := []) Try.func67 rfl (by kernel_rfl) (by kernel_rfl) rfl ?_
  repeat' first
    | ((with_reducible refine eqg ?_); exact rfl)
    | ((with_reducible refine KOb.mk ?_); kernel_rfl)
    | ((with_reducible intro h); (repeat (first | replace H := grd_k H | replace H := out_step H (by assumption))); first | replace H := cond_t h H | replace H := cond_f h H | exact absurd h (by decide) | skip)
    | ((with_reducible refine Ob.mk ?_); first | (with_reducible rfl) | (first | ((repeat (first | (with_reducible exact grd_p H) | (replace H := grd_k H) | (replace H := out_step H (by assumption)))); done) | rfl | ((repeat (first | exact grd_p H | replace H := grd_k H | replace H := out_step H (by assumption))); done) | ((repeat (first | exact grd_p H | (have hp := grd_p H; exact hp) | replace H := grd_k H | replace H := out_step H (by assumption) | (replace H := bind_some H; obtain ⟨_, _, H⟩ := H))); done) | (repeat (first | exact grd_p H | replace H := grd_k H | replace H := out_step H (by assumption)))))
    | (with_reducible exact True.intro)
    | ((conv => whnf); first
        | (with_reducible refine And.intro ?_ ?_)
        | (with_reducible exact True.intro)
        | ((with_reducible refine Ob.mk ?_); first | (with_reducible rfl) | (first | ((repeat (first | (with_reducible exact grd_p H) | (replace H := grd_k H) | (replace H := out_step H (by assumption)))); done) | rfl | ((repeat (first | exact grd_p H | replace H := grd_k H | replace H := out_step H (by assumption))); done) | ((repeat (first | exact grd_p H | (have hp := grd_p H; exact hp) | replace H := grd_k H | replace H := out_step H (by assumption) | (replace H := bind_some H; obtain ⟨_, _, H⟩ := H))); done) | (repeat (first | exact grd_p H | replace H := grd_k H | replace H := out_step H (by assumption)))))
        | ((with_reducible refine CallW.mk ?_); (repeat (first | replace H := grd_k H | replace H := out_step H (by assumption))); replace H := bind_some H; obtain ⟨y, hy, H⟩ := H; first | ((with_reducible have hz : spec_l1Cur_sensors _ = some y := hy); clear hz; refine Exists.intro _ (Exists.intro _ ⟨spec_l1Cur_sensors.call hy ?_, rfl, rfl, ?_⟩)) | ((with_reducible have hz : spec_l1Cur_among _ _ = some y := hy); clear hz; refine Exists.intro _ (Exists.intro _ ⟨spec_l1Cur_among.call hy ?_, rfl, rfl, ?_⟩)))
        | ((with_reducible refine fin_mk ?_); (repeat (first | replace H := grd_k H | replace H := out_step H (by assumption))); have H := Option.some.inj H; subst H))
    | constructor
def G41 : Env := G40.add 67 [] spec_DrawBrokenSensors.S
theorem G41_ok : EnvOk Try.prog G41 := G40_ok.add ent_67 fun ar h r h1 ⟨a0, y, hy, e1, e2, e3, e4⟩ => by
  subst e3 e4; exact (spec_DrawBrokenSensors.spec a0 y hy).le e1 e2
attribute [local irreducible] spec_DrawBrokenSensors

noncomputable def impl_distance (a0 : Int) (a1 : Int) : Option (Int) :=
  (some (if false = true then (if (w64 (a1 - a0)) < (w64 (a0 - a1)) then (w64 (a1 - a0)) else (w64 (a0 - a1))) else (if (w64 (a1 - a0)) > (w64 (a0 - a1)) then (w64 (a1 - a0)) else (w64 (a0 - a1)))))
def impl_distance.res (_ : Int) (_ : Int) (y : Int) : AV := (.v (.int .i64 y))
def impl_distance.out (_ : Int) (_ : Int) (_ : Int) : List (Option LB) := []
def impl_distance.S (ar : List AV) (h : List (Option LB)) (r : AV) (h1 : List (Option LB)) : Prop := ∃ a0 a1 y, impl_distance a0 a1 = some y ∧ leL ar [(.v (.int .i64 a0)), (.v (.int .i64 a1))] ∧ leH h [] ∧ r = impl_distance.res a0 a1 y ∧ h1 = impl_distance.out a0 a1 y
theorem impl_distance.call {ar : List AV} {h : List (Option LB)} {a0 : Int} {a1 : Int} {y : Int} (H : impl_distance a0 a1 = some y) (h0 : leLk ar [(.v (.int .i64 a0)), (.v (.int .i64 a1))] (leHk h [])) : impl_distance.S ar h (impl_distance.res a0 a1 y) (impl_distance.out a0 a1 y) := ⟨a0, a1, y, H, (args_ok h0).1, (args_ok h0).2, rfl, rfl⟩
set_option maxHeartbeats 100000000 in
set_option maxRecDepth 100000 in
theorem impl_distance.spec (a0 : Int) (a1 : Int) (y : Int) (H : impl_distance a0 a1 = some y) : Spec Try.prog 129 [(.v (.int .i64 a0)), (.v (.int .i64 a1))] [] (impl_distance.res a0 a1 y) (impl_distance.out a0 a1 y) := by
  refine spec_intro (G41_ok.at tok []) (ct := []) Try.func129 rfl (by kernel_rfl) (by kernel_rfl) rfl ?_
  repeat' first
    | ((with_reducible refine eqg ?_); exact rfl)
    | ((with_reducible refine KOb.mk ?_); kernel_rfl)
    | ((with_reducible intro h); (repeat (first | replace H := grd_k H | replace H := out_step H (by assumption))); first | replace H := cond_t h H | replace H := cond_f h H | exact absurd h (by decide) | skip)
    | ((with_reducible refine Ob.mk ?_); first | (with_reducible rfl) | (first | ((repeat (first | (with_reducible exact grd_p H) | (replace H := grd_k H) | (replace H := out_step H (by assumption)))); done) | rfl | ((repeat (first | exact grd_p H | replace H := grd_k H | replace H := out_step H (by assumption))); done) | ((repeat (first | exact grd_p H | (have hp := grd_p H; exact hp) | replace H := grd_k H | replace H := out_step H (by assumption) | (replace H := bind_some H; obtain ⟨_, _, H⟩ := H))); done) | (repeat (first | exact grd_p H | replace H := grd_k H | replace H := out_step H (by assumption)))))
    | (with_reducible exact True.intro)
    | ((conv => whnf); first
        | (with_reducible refine And.intro ?_ ?_)
        | (with_reducible exact True.intro)
        | ((with_reducible refine Ob.mk ?_); first | (with_reducible rfl) | (first | ((repeat (first | (with_reducible exact grd_p H) | (replace H := grd_k H) | (replace H := out_step H (by assumption)))); done) | rfl | ((repeat (first | exact grd_p H | replace H := grd_k H | replace H := out_step H (by assumption))); done) | ((repeat (first | exact grd_p H | (have hp := grd_p H; exact hp) | replace H := grd_k H | replace H := out_step H (by assumption) | (replace H := bind_some H; obtain ⟨_, _, H⟩ := H))); done) | (repeat (first | exact grd_p H | replace H := grd_k H | replace H := out_step H (by assumption)))))
        | ((with_reducible refine fin_mk ?_); (repeat (first | replace H := grd_k H | replace H := out_step H (by assumption))); have H := Option.some.inj H; subst H))
    | constructor
def G42 : Env := G41.add 129 [] impl_distance.S
theorem G42_ok : EnvOk Try.prog G42 := G41_ok.add ent_129 fun ar h r h1 ⟨a0, a1, y, hy, e1, e2, e3, e4⟩ => by
  subst e3 e4; exact (impl_distance.spec a0 a1 y hy).le e1 e2
attribute [local irreducible] impl_distance

noncomputable def impl_BrokenSensors_loop1 (a0 : (List Int)) (a1 : Int) (v10 : Int) (v11 : Int) (v12 : (List Int)) : Option (Lp (Int × Int × (List Int)) (((List Int)))) :=
  (cond (decide (v11 < (a0.length : Int))) (grd (0 ≤ v11 ∧ v11 < (a0.length : Int)) (cond (decide ((a0.getD v11.toNat 0) < (0 : Int))) (grd (v12.length + [v11].length ≤ 140737488355328 / 8 ∧ v12.length + [v11].length ≤ 140737488355328) (some (.go (v10, (w64 (v11 + (1 : Int))), (v12 ++ [v11]))))) ((impl_distance (a0.getD v11.toNat 0) v10).bind fun y13 => (cond (decide (a1 < y13)) (grd (v12.length + [v11].length ≤ 140737488355328 / 8 ∧ v12.length + [v11].length ≤ 140737488355328) (some (.go (v10, (w64 (v11 + (1 : Int))), (v12 ++ [v11]))))) (some (.go (v10, (w64 (v11 + (1 : Int))), v12))))))) ((some (.out v12))))
noncomputable def impl_BrokenSensors (a0 : (List Int)) (a1 : Int) : Option ((Unit) ⊕ ((List Int))) :=
  ((impl_voteOf a0).bind fun y1 => (cond (!y1.2) ((some (Sum.inl ()))) (cond (decide (a1 < (0 : Int))) ((some (Sum.inl ()))) ((iter (fun s => impl_BrokenSensors_loop1 a0 a1 s.1 s.2.1 s.2.2) (y1.1, (0 : Int), ([] : List Int))).bind (fun r14 => (some (Sum.inr r14)))))))
def impl_BrokenSensors.res (_ : (List Int)) (_ : Int) (y : (Unit) ⊕ ((List Int))) : AV := match y with
  | (.inl y) => (.tup [(.v (.slice none 0 0)), (.v (.bool false))])
  | (.inr y) => (.tup [(.own 0), (.v (.bool true))])
def impl_BrokenSensors.out (_ : (List Int)) (_ : Int) (y : (Unit) ⊕ ((List Int))) : List (Option LB) := match y with
  | (.inl y) => []
  | (.inr y) => [some (.arr 3 (.int .i64) y)]
def impl_BrokenSensors.S (ar : List AV) (h : List (Option LB)) (r : AV) (h1 : List (Option LB)) : Prop := ∃ a0 a1 y, impl_BrokenSensors a0 a1 = some y ∧ leL ar [(.tree (.int .i64) a0), (.v (.int .i64 a1))] ∧ leH h [] ∧ r = impl_BrokenSensors.res a0 a1 y ∧ h1 = impl_BrokenSensors.out a0 a1 y
theorem impl_BrokenSensors.call {ar : List AV} {h : List (Option LB)} {a0 : (List Int)} {a1 : Int} {y : (Unit) ⊕ ((List Int))} (H : impl_BrokenSensors a0 a1 = some y) (h0 : leLk ar [(.tree (.int .i64) a0), (.v (.int .i64 a1))] (leHk h [])) : impl_BrokenSensors.S ar h (impl_BrokenSensors.res a0 a1 y) (impl_BrokenSensors.out a0 a1 y) := ⟨a0, a1, y, H, (args_ok h0).1, (args_ok h0).2, rfl, rfl⟩
set_option maxHeartbeats 100000000 in
set_option maxRecDepth 100000 in
theorem impl_BrokenSensors.spec (a0 : (List Int)) (a1 : Int) (y : (Unit) ⊕ ((List Int))) (H : impl_BrokenSensors a0 a1 = some y) : Spec Try.prog 68 [(.tree (.int .i64) a0), (.v (.int .i64 a1))] [] (impl_BrokenSensors.res a0 a1 y) (impl_BrokenSensors.out a0 a1 y) := by
  have hlen : Nat.ble ([] : List (Option LB)).length (impl_BrokenSensors.out a0 a1 y).length = true := by
    rcases y with y | y <;> rfl
  refine spec_intro (G42_ok.at tok []) (ct := [(3, some [0, 1, 6, 21, 33, 34, 35, 36, 37]), (9, some [1, 6, 8, 9, 23, 24, 25, 33, 34, 35, 36, 37, 38])]) Try.func68 rfl (by kernel_rfl) (by kernel_rfl) hlen ?_
  repeat' first
    | ((with_reducible refine eqg ?_); exact rfl)
    | ((with_reducible refine KOb.mk ?_); kernel_rfl)
    | ((with_reducible intro h); (repeat (first | replace H := grd_k H | replace H := out_step H (by assumption))); first | replace H := cond_t h H | replace H := cond_f h H | exact absurd h (by decide) | skip)
    | ((with_reducible refine Ob.mk ?_); first | (with_reducible rfl) | (first | ((repeat (first | (with_reducible exact grd_p H) | (replace H := grd_k H) | (replace H := out_step H (by assumption)))); done) | rfl | ((repeat (first | exact grd_p H | replace H := grd_k H | replace H := out_step H (by assumption))); done) | ((repeat (first | exact grd_p H | (have hp := grd_p H; exact hp) | replace H := grd_k H | replace H := out_step H (by assumption) | (replace H := bind_some H; obtain ⟨_, _, H⟩ := H))); done) | (repeat (first | exact grd_p H | replace H := grd_k H | replace H := out_step H (by assumption)))))
    | (with_reducible exact True.intro)
    | ((conv => whnf); first
        | (with_reducible refine And.intro ?_ ?_)
        | (with_reducible exact True.intro)
        | ((with_reducible refine Ob.mk ?_); first | (with_reducible rfl) | (first | ((repeat (first | (with_reducible exact grd_p H) | (replace H := grd_k H) | (replace H := out_step H (by assumption)))); done) | rfl | ((repeat (first | exact grd_p H | replace H := grd_k H | replace H := out_step H (by assumption))); done) | ((repeat (first | exact grd_p H | (have hp := grd_p H; exact hp) | replace H := grd_k H | replace H := out_step H (by assumption) | (replace H := bind_some H; obtain ⟨_, _, H⟩ := H))); done) | (repeat (first | exact grd_p H | replace H := grd_k H | replace H := out_step H (by assumption)))))
        | ((with_reducible refine CallW.mk ?_); (repeat (first | replace H := grd_k H | replace H := out_step H (by assumption))); replace H := bind_some H; obtain ⟨y, hy, H⟩ := H; first | ((with_reducible have hz : impl_voteOf _ = some y := hy); clear hz; refine Exists.intro _ (Exists.intro _ ⟨impl_voteOf.call hy ?_, rfl, rfl, ?_⟩)) | ((with_reducible have hz : impl_distance _ _ = some y := hy); clear hz; refine Exists.intro _ (Exists.intro _ ⟨impl_distance.call hy ?_, rfl, rfl, ?_⟩)))
        | ((repeat (first | replace H := grd_k H | replace H := out_step H (by assumption))); refine loop_iter (G42_ok.at tok []) (ct := [(3, some [0, 1, 6, 21, 33, 34, 35, 36, 37]), (9, some [1, 6, 8, 9, 23, 24, 25, 33, 34, 35, 36, 37, 38])]) (F := (fun s1 : Int × Int × (List Int) => ⟨sl [(1, (.v (.int .i64 a1))), (6, (.v (.int .i64 s1.1))), (8, (.own 0)), (23, (.tree (.int .i64) a0)), (24, (.v (.int .i64 (a0.length : Int)))), (25, (.v (.int .i64 s1.2.1)))], [some (.arr 3 (.int .i64) s1.2.2)]⟩)) (step := (fun s : Int × Int × (List Int) => impl_BrokenSensors_loop1 _ _ s.1 s.2.1 s.2.2)) _ H (by kernel_rfl) (sub_auto ?_) ?_; rotate_left; (intro s1 r v hr H); rotate_right)
        | ((repeat (first | replace H := grd_k H | replace H := out_step H (by assumption))); refine again_step H (by assumption) (sub_auto ?_))
        | ((with_reducible refine fin_mk ?_); (repeat (first | replace H := grd_k H | replace H := out_step H (by assumption))); have H := Option.some.inj H; subst H))
    | constructor
def G43 : Env := G42.add 68 [] impl_BrokenSensors.S
theorem G43_ok : EnvOk Try.prog G43 := G42_ok.add ent_68 fun ar h r h1 ⟨a0, a1, y, hy, e1, e2, e3, e4⟩ => by
  subst e3 e4; exact (impl_BrokenSensors.spec a0 a1 y hy).le e1 e2
attribute [local irreducible] impl_BrokenSensors

noncomputable def spec_l1Most (a0 : Int) (a1 : Int) : Option (Int) :=
  (cond (decide (a1 < a0)) ((some a0)) ((some a1)))
def spec_l1Most.res (_ : Int) (_ : Int) (y : Int) : AV := (.v (.int .i64 y))
def spec_l1Most.out (_ : Int) (_ : Int) (_ : Int) : List (Option LB) := []
def spec_l1Most.S (ar : List AV) (h : List (Option LB)) (r : AV) (h1 : List (Option LB)) : Prop := ∃ a0 a1 y, spec_l1Most a0 a1 = some y ∧ leL ar [(.v (.int .i64 a0)), (.v (.int .i64 a1))] ∧ leH h [] ∧ r = spec_l1Most.res a0 a1 y ∧ h1 = spec_l1Most.out a0 a1 y
theorem spec_l1Most.call {ar : List AV} {h : List (Option LB)} {a0 : Int} {a1 : Int} {y : Int} (H : spec_l1Most a0 a1 = some y) (h0 : leLk ar [(.v (.int .i64 a0)), (.v (.int .i64 a1))] (leHk h [])) : spec_l1Most.S ar h (spec_l1Most.res a0 a1 y) (spec_l1Most.out a0 a1 y) := ⟨a0, a1, y, H, (args_ok h0).1, (args_ok h0).2, rfl, rfl⟩
set_option maxHeartbeats 100000000 in
set_option maxRecDepth 100000 in
theorem spec_l1Most.spec (a0 : Int) (a1 : Int) (y : Int) (H : spec_l1Most a0 a1 = some y) : Spec Try.prog 130 [(.v (.int .i64 a0)), (.v (.int .i64 a1))] [] (spec_l1Most.res a0 a1 y) (spec_l1Most.out a0 a1 y) := by
  refine spec_intro (G43_ok.at tok []) (ct := []) Try.func130 rfl (by kernel_rfl) (by kernel_rfl) rfl ?_
  repeat' first
    | ((with_reducible refine eqg ?_); exact rfl)
    | ((with_reducible refine KOb.mk ?_); kernel_rfl)
    | ((with_reducible intro h); (repeat (first | replace H := grd_k H | replace H := out_step H (by assumption))); first | replace H := cond_t h H | replace H := cond_f h H | exact absurd h (by decide) | skip)
    | ((with_reducible refine Ob.mk ?_); first | (with_reducible rfl) | (first | ((repeat (first | (with_reducible exact grd_p H) | (replace H := grd_k H) | (replace H := out_step H (by assumption)))); done) | rfl | ((repeat (first | exact grd_p H | replace H := grd_k H | replace H := out_step H (by assumption))); done) | ((repeat (first | exact grd_p H | (have hp := grd_p H; exact hp) | replace H := grd_k H | replace H := out_step H (by assumption) | (replace H := bind_some H; obtain ⟨_, _, H⟩ := H))); done) | (repeat (first | exact grd_p H | replace H := grd_k H | replace H := out_step H (by assumption)))))
    | (with_reducible exact True.intro)
    | ((conv => whnf); first
        | (with_reducible refine And.intro ?_ ?_)
        | (with_reducible exact True.intro)
        | ((with_reducible refine Ob.mk ?_); first | (with_reducible rfl) | (first | ((repeat (first | (with_reducible exact grd_p H) | (replace H := grd_k H) | (replace H := out_step H (by assumption)))); done) | rfl | ((repeat (first | exact grd_p H | replace H := grd_k H | replace H := out_step H (by assumption))); done) | ((repeat (first | exact grd_p H | (have hp := grd_p H; exact hp) | replace H := grd_k H | replace H := out_step H (by assumption) | (replace H := bind_some H; obtain ⟨_, _, H⟩ := H))); done) | (repeat (first | exact grd_p H | replace H := grd_k H | replace H := out_step H (by assumption)))))
        | ((with_reducible refine fin_mk ?_); (repeat (first | replace H := grd_k H | replace H := out_step H (by assumption))); have H := Option.some.inj H; subst H))
    | constructor
def G44 : Env := G43.add 130 [] spec_l1Most.S
theorem G44_ok : EnvOk Try.prog G44 := G43_ok.add ent_130 fun ar h r h1 ⟨a0, a1, y, hy, e1, e2, e3, e4⟩ => by
  subst e3 e4; exact (spec_l1Most.spec a0 a1 y hy).le e1 e2
attribute [local irreducible] spec_l1Most

noncomputable def spec_BrokenSensors_loop1 (a0 : (List Int)) (a1 : Int) (v11 : Int) (v12 : Int) (v13 : (List Int)) : Option (Lp (Int × Int × (List Int)) (((List Int)))) :=
  (cond (decide (v12 < (a0.length : Int))) (grd (0 ≤ v12 ∧ v12 < (a0.length : Int)) (grd (0 ≤ v12 ∧ v12 < (a0.length : Int)) (cond (decide ((a0.getD v12.toNat 0) < (0 : Int))) (grd (v13.length + [v12].length ≤ 140737488355328 / 8 ∧ v13.length + [v12].length ≤ 140737488355328) (some (.go (v11, (w64 (v12 + (1 : Int))), (v13 ++ [v12]))))) ((spec_l1Most (w64 ((a0.getD v12.toNat 0) - v11)) (w64 (0 - (w64 ((a0.getD v12.toNat 0) - v11))))).bind fun y14 => (cond (decide (a1 < y14)) (grd (v13.length + [v12].length ≤ 140737488355328 / 8 ∧ v13.length + [v12].length ≤ 140737488355328) (some (.go (v11, (w64 (v12 + (1 : Int))), (v13 ++ [v12]))))) (some (.go (v11, (w64 (v12 + (1 : Int))), v13)))))))) ((some (.out v13))))
noncomputable def spec_BrokenSensors (a0 : (List Int)) (a1 : Int) : Option ((List Int) × Bool) :=
  ((spec_l12Sensors a0).bind fun y1 => (cond (!y1) ((some (([] : List Int), false))) (cond (decide (a1 < (0 : Int))) ((some (([] : List Int), false))) ((spec_l12Of a0).bind fun y2 => ((iter (fun s => spec_BrokenSensors_loop1 a0 a1 s.1 s.2.1 s.2.2) (y2, (0 : Int), ([] : List Int))).bind (fun r15 => (some (r15, true))))))))
def spec_BrokenSensors.res (_ : (List Int)) (_ : Int) (y : (List Int) × Bool) : AV := (.tup [(.own 0), (.bl y.2)])
def spec_BrokenSensors.out (_ : (List Int)) (_ : Int) (y : (List Int) × Bool) : List (Option LB) := [some (.arr 3 (.int .i64) y.1)]
def spec_BrokenSensors.S (ar : List AV) (h : List (Option LB)) (r : AV) (h1 : List (Option LB)) : Prop := ∃ a0 a1 y, spec_BrokenSensors a0 a1 = some y ∧ leL ar [(.tree (.int .i64) a0), (.v (.int .i64 a1))] ∧ leH h [] ∧ r = spec_BrokenSensors.res a0 a1 y ∧ h1 = spec_BrokenSensors.out a0 a1 y
theorem spec_BrokenSensors.call {ar : List AV} {h : List (Option LB)} {a0 : (List Int)} {a1 : Int} {y : (List Int) × Bool} (H : spec_BrokenSensors a0 a1 = some y) (h0 : leLk ar [(.tree (.int .i64) a0), (.v (.int .i64 a1))] (leHk h [])) : spec_BrokenSensors.S ar h (spec_BrokenSensors.res a0 a1 y) (spec_BrokenSensors.out a0 a1 y) := ⟨a0, a1, y, H, (args_ok h0).1, (args_ok h0).2, rfl, rfl⟩
set_option maxHeartbeats 100000000 in
set_option maxRecDepth 100000 in
theorem spec_BrokenSensors.spec (a0 : (List Int)) (a1 : Int) (y : (List Int) × Bool) (H : spec_BrokenSensors a0 a1 = some y) : Spec Try.prog 69 [(.tree (.int .i64) a0), (.v (.int .i64 a1))] [] (spec_BrokenSensors.res a0 a1 y) (spec_BrokenSensors.out a0 a1 y) := by
  refine spec_intro (G44_ok.at tok []) (ct := [(4, some [0, 1, 6, 39, 40, 41, 42, 43, 44]), (10, some [0, 1, 6, 7, 8, 39, 40, 41, 42, 43, 44, 45])]) Try.func69 rfl (by kernel_rfl) (by kernel_rfl) rfl ?_
  repeat' first
    | ((with_reducible refine eqg ?_); exact rfl)
    | ((with_reducible refine KOb.mk ?_); kernel_rfl)
    | ((with_reducible intro h); (repeat (first | replace H := grd_k H | replace H := out_step H (by assumption))); first | replace H := cond_t h H | replace H := cond_f h H | exact absurd h (by decide) | skip)
    | ((with_reducible refine Ob.mk ?_); first | (with_reducible rfl) | (first | ((repeat (first | (with_reducible exact grd_p H) | (replace H := grd_k H) | (replace H := out_step H (by assumption)))); done) | rfl | ((repeat (first | exact grd_p H | replace H := grd_k H | replace H := out_step H (by assumption))); done) | ((repeat (first | exact grd_p H | (have hp := grd_p H; exact hp) | replace H := grd_k H | replace H := out_step H (by assumption) | (replace H := bind_some H; obtain ⟨_, _, H⟩ := H))); done) | (repeat (first | exact grd_p H | replace H := grd_k H | replace H := out_step H (by assumption)))))
    | (with_reducible exact True.intro)
    | ((conv => whnf); first
        | (with_reducible refine And.intro ?_ ?_)
        | (with_reducible exact True.intro)
        | ((with_reducible refine Ob.mk ?_); first | (with_reducible rfl) | (first | ((repeat (first | (with_reducible exact grd_p H) | (replace H := grd_k H) | (replace H := out_step H (by assumption)))); done) | rfl | ((repeat (first | exact grd_p H | replace H := grd_k H | replace H := out_step H (by assumption))); done) | ((repeat (first | exact grd_p H | (have hp := grd_p H; exact hp) | replace H := grd_k H | replace H := out_step H (by assumption) | (replace H := bind_some H; obtain ⟨_, _, H⟩ := H))); done) | (repeat (first | exact grd_p H | replace H := grd_k H | replace H := out_step H (by assumption)))))
        | ((with_reducible refine CallW.mk ?_); (repeat (first | replace H := grd_k H | replace H := out_step H (by assumption))); replace H := bind_some H; obtain ⟨y, hy, H⟩ := H; first | ((with_reducible have hz : spec_l12Sensors _ = some y := hy); clear hz; refine Exists.intro _ (Exists.intro _ ⟨spec_l12Sensors.call hy ?_, rfl, rfl, ?_⟩)) | ((with_reducible have hz : spec_l12Of _ = some y := hy); clear hz; refine Exists.intro _ (Exists.intro _ ⟨spec_l12Of.call hy ?_, rfl, rfl, ?_⟩)) | ((with_reducible have hz : spec_l1Most _ _ = some y := hy); clear hz; refine Exists.intro _ (Exists.intro _ ⟨spec_l1Most.call hy ?_, rfl, rfl, ?_⟩)))
        | ((repeat (first | replace H := grd_k H | replace H := out_step H (by assumption))); refine loop_iter (G44_ok.at tok []) (ct := [(4, some [0, 1, 6, 39, 40, 41, 42, 43, 44]), (10, some [0, 1, 6, 7, 8, 39, 40, 41, 42, 43, 44, 45])]) (F := (fun s1 : Int × Int × (List Int) => ⟨sl [(0, (.tree (.int .i64) a0)), (1, (.v (.int .i64 a1))), (6, (.own 0)), (7, (.v (.int .i64 s1.1))), (8, (.v (.int .i64 s1.2.1)))], [some (.arr 3 (.int .i64) s1.2.2)]⟩)) (step := (fun s : Int × Int × (List Int) => spec_BrokenSensors_loop1 _ _ s.1 s.2.1 s.2.2)) _ H (by kernel_rfl) (sub_auto ?_) ?_; rotate_left; (intro s1 r v hr H); rotate_right)
        | ((repeat (first | replace H := grd_k H | replace H := out_step H (by assumption))); refine again_step H (by assumption) (sub_auto ?_))
        | ((with_reducible refine fin_mk ?_); (repeat (first | replace H := grd_k H | replace H := out_step H (by assumption))); have H := Option.some.inj H; subst H))
    | constructor
def G45 : Env := G44.add 69 [] spec_BrokenSensors.S
theorem G45_ok : EnvOk Try.prog G45 := G44_ok.add ent_69 fun ar h r h1 ⟨a0, a1, y, hy, e1, e2, e3, e4⟩ => by
  subst e3 e4; exact (spec_BrokenSensors.spec a0 a1 y hy).le e1 e2
attribute [local irreducible] spec_BrokenSensors

noncomputable def laws_vInts_loop1 (a0 : (List Int)) (a1 : (List Int)) (v2 : Int) : Option (Lp (Int) ((Unit) ⊕ (Unit))) :=
  (cond (decide (v2 < (a0.length : Int))) (grd (0 ≤ v2 ∧ v2 < (a0.length : Int)) (grd (0 ≤ v2 ∧ v2 < (a1.length : Int)) (cond (!decide ((a0.getD v2.toNat 0) = (a1.getD v2.toNat 0))) ((some (.out (Sum.inl ())))) (some (.go (w64 (v2 + (1 : Int)))))))) ((some (.out (Sum.inr ())))))
noncomputable def laws_vInts (a0 : (List Int)) (a1 : (List Int)) : Option (Bool) :=
  (cond (!decide ((a0.length : Int) = (a1.length : Int))) ((some false)) ((iter (fun s => laws_vInts_loop1 a0 a1 s) (0 : Int)).bind (Sum.elim (fun _ => (some false)) (fun _ => (some true)))))
def laws_vInts.res (_ : (List Int)) (_ : (List Int)) (y : Bool) : AV := (.bl y)
def laws_vInts.out (_ : (List Int)) (_ : (List Int)) (_ : Bool) : List (Option LB) := []
def laws_vInts.S (ar : List AV) (h : List (Option LB)) (r : AV) (h1 : List (Option LB)) : Prop := ∃ a0 a1 y, laws_vInts a0 a1 = some y ∧ leL ar [(.tree (.int .i64) a0), (.tree (.int .i64) a1)] ∧ leH h [] ∧ r = laws_vInts.res a0 a1 y ∧ h1 = laws_vInts.out a0 a1 y
theorem laws_vInts.call {ar : List AV} {h : List (Option LB)} {a0 : (List Int)} {a1 : (List Int)} {y : Bool} (H : laws_vInts a0 a1 = some y) (h0 : leLk ar [(.tree (.int .i64) a0), (.tree (.int .i64) a1)] (leHk h [])) : laws_vInts.S ar h (laws_vInts.res a0 a1 y) (laws_vInts.out a0 a1 y) := ⟨a0, a1, y, H, (args_ok h0).1, (args_ok h0).2, rfl, rfl⟩
set_option maxHeartbeats 100000000 in
set_option maxRecDepth 100000 in
theorem laws_vInts.spec (a0 : (List Int)) (a1 : (List Int)) (y : Bool) (H : laws_vInts a0 a1 = some y) : Spec Try.prog 38 [(.tree (.int .i64) a0), (.tree (.int .i64) a1)] [] (laws_vInts.res a0 a1 y) (laws_vInts.out a0 a1 y) := by
  refine spec_intro (G45_ok.at tok []) (ct := [(5, some [0, 1, 5])]) Try.func38 rfl (by kernel_rfl) (by kernel_rfl) rfl ?_
  repeat' first
    | ((with_reducible refine eqg ?_); exact rfl)
    | ((with_reducible refine KOb.mk ?_); kernel_rfl)
    | ((with_reducible intro h); (repeat (first | replace H := grd_k H | replace H := out_step H (by assumption))); first | replace H := cond_t h H | replace H := cond_f h H | exact absurd h (by decide) | skip)
    | ((with_reducible refine Ob.mk ?_); first | (with_reducible rfl) | (first | ((repeat (first | (with_reducible exact grd_p H) | (replace H := grd_k H) | (replace H := out_step H (by assumption)))); done) | rfl | ((repeat (first | exact grd_p H | replace H := grd_k H | replace H := out_step H (by assumption))); done) | ((repeat (first | exact grd_p H | (have hp := grd_p H; exact hp) | replace H := grd_k H | replace H := out_step H (by assumption) | (replace H := bind_some H; obtain ⟨_, _, H⟩ := H))); done) | (repeat (first | exact grd_p H | replace H := grd_k H | replace H := out_step H (by assumption)))))
    | (with_reducible exact True.intro)
    | ((conv => whnf); first
        | (with_reducible refine And.intro ?_ ?_)
        | (with_reducible exact True.intro)
        | ((with_reducible refine Ob.mk ?_); first | (with_reducible rfl) | (first | ((repeat (first | (with_reducible exact grd_p H) | (replace H := grd_k H) | (replace H := out_step H (by assumption)))); done) | rfl | ((repeat (first | exact grd_p H | replace H := grd_k H | replace H := out_step H (by assumption))); done) | ((repeat (first | exact grd_p H | (have hp := grd_p H; exact hp) | replace H := grd_k H | replace H := out_step H (by assumption) | (replace H := bind_some H; obtain ⟨_, _, H⟩ := H))); done) | (repeat (first | exact grd_p H | replace H := grd_k H | replace H := out_step H (by assumption)))))
        | ((repeat (first | replace H := grd_k H | replace H := out_step H (by assumption))); refine loop_iter (G45_ok.at tok []) (ct := [(5, some [0, 1, 5])]) (F := (fun s1 : Int => ⟨sl [(0, (.tree (.int .i64) a0)), (1, (.tree (.int .i64) a1)), (5, (.v (.int .i64 s1)))], []⟩)) (step := (fun s : Int => laws_vInts_loop1 _ _ s)) _ H (by kernel_rfl) (sub_auto ?_) ?_; rotate_left; (intro s1 r v hr H); rotate_right)
        | ((repeat (first | replace H := grd_k H | replace H := out_step H (by assumption))); refine again_step H (by assumption) (sub_auto ?_))
        | ((with_reducible refine fin_mk ?_); (repeat (first | replace H := grd_k H | replace H := out_step H (by assumption))); have H := Option.some.inj H; subst H))
    | constructor
def G46 : Env := G45.add 38 [] laws_vInts.S
theorem G46_ok : EnvOk Try.prog G46 := G45_ok.add ent_38 fun ar h r h1 ⟨a0, a1, y, hy, e1, e2, e3, e4⟩ => by
  subst e3 e4; exact (laws_vInts.spec a0 a1 y hy).le e1 e2
attribute [local irreducible] laws_vInts

noncomputable def laws_vWithin_loop1 (a0 : (List Int)) (a1 : (List Int)) (v4 : Int) : Option (Lp (Int) ((Unit) ⊕ (Unit))) :=
  (cond (decide (v4 < (a0.length : Int))) (grd (0 ≤ v4 ∧ v4 < (a0.length : Int)) ((laws_vHas a1 (a0.getD v4.toNat 0)).bind fun y5 => (cond (!y5) ((some (.out (Sum.inl ())))) (some (.go (w64 (v4 + (1 : Int)))))))) ((some (.out (Sum.inr ())))))
noncomputable def laws_vWithin (a0 : (List Int)) (a1 : (List Int)) : Option (Bool) :=
  ((iter (fun s => laws_vWithin_loop1 a0 a1 s) (0 : Int)).bind (Sum.elim (fun _ => (some false)) (fun _ => (some true))))
def laws_vWithin.res (_ : (List Int)) (_ : (List Int)) (y : Bool) : AV := (.bl y)
def laws_vWithin.out (_ : (List Int)) (_ : (List Int)) (_ : Bool) : List (Option LB) := []
def laws_vWithin.S (ar : List AV) (h : List (Option LB)) (r : AV) (h1 : List (Option LB)) : Prop := ∃ a0 a1 y, laws_vWithin a0 a1 = some y ∧ leL ar [(.tree (.int .i64) a0), (.tree (.int .i64) a1)] ∧ leH h [] ∧ r = laws_vWithin.res a0 a1 y ∧ h1 = laws_vWithin.out a0 a1 y
theorem laws_vWithin.call {ar : List AV} {h : List (Option LB)} {a0 : (List Int)} {a1 : (List Int)} {y : Bool} (H : laws_vWithin a0 a1 = some y) (h0 : leLk ar [(.tree (.int .i64) a0), (.tree (.int .i64) a1)] (leHk h [])) : laws_vWithin.S ar h (laws_vWithin.res a0 a1 y) (laws_vWithin.out a0 a1 y) := ⟨a0, a1, y, H, (args_ok h0).1, (args_ok h0).2, rfl, rfl⟩
set_option maxHeartbeats 100000000 in
set_option maxRecDepth 100000 in
theorem laws_vWithin.spec (a0 : (List Int)) (a1 : (List Int)) (y : Bool) (H : laws_vWithin a0 a1 = some y) : Spec Try.prog 70 [(.tree (.int .i64) a0), (.tree (.int .i64) a1)] [] (laws_vWithin.res a0 a1 y) (laws_vWithin.out a0 a1 y) := by
  refine spec_intro (G46_ok.at tok []) (ct := []) Try.func70 rfl (by kernel_rfl) (by kernel_rfl) rfl ?_
  repeat' first
    | ((with_reducible refine eqg ?_); exact rfl)
    | ((with_reducible refine KOb.mk ?_); kernel_rfl)
    | ((with_reducible intro h); (repeat (first | replace H := grd_k H | replace H := out_step H (by assumption))); first | replace H := cond_t h H | replace H := cond_f h H | exact absurd h (by decide) | skip)
    | ((with_reducible refine Ob.mk ?_); first | (with_reducible rfl) | (first | ((repeat (first | (with_reducible exact grd_p H) | (replace H := grd_k H) | (replace H := out_step H (by assumption)))); done) | rfl | ((repeat (first | exact grd_p H | replace H := grd_k H | replace H := out_step H (by assumption))); done) | ((repeat (first | exact grd_p H | (have hp := grd_p H; exact hp) | replace H := grd_k H | replace H := out_step H (by assumption) | (replace H := bind_some H; obtain ⟨_, _, H⟩ := H))); done) | (repeat (first | exact grd_p H | replace H := grd_k H | replace H := out_step H (by assumption)))))
    | (with_reducible exact True.intro)
    | ((conv => whnf); first
        | (with_reducible refine And.intro ?_ ?_)
        | (with_reducible exact True.intro)
        | ((with_reducible refine Ob.mk ?_); first | (with_reducible rfl) | (first | ((repeat (first | (with_reducible exact grd_p H) | (replace H := grd_k H) | (replace H := out_step H (by assumption)))); done) | rfl | ((repeat (first | exact grd_p H | replace H := grd_k H | replace H := out_step H (by assumption))); done) | ((repeat (first | exact grd_p H | (have hp := grd_p H; exact hp) | replace H := grd_k H | replace H := out_step H (by assumption) | (replace H := bind_some H; obtain ⟨_, _, H⟩ := H))); done) | (repeat (first | exact grd_p H | replace H := grd_k H | replace H := out_step H (by assumption)))))
        | ((with_reducible refine CallW.mk ?_); (repeat (first | replace H := grd_k H | replace H := out_step H (by assumption))); replace H := bind_some H; obtain ⟨y, hy, H⟩ := H; first | ((with_reducible have hz : laws_vHas _ _ = some y := hy); clear hz; refine Exists.intro _ (Exists.intro _ ⟨laws_vHas.call hy ?_, rfl, rfl, ?_⟩)))
        | ((repeat (first | replace H := grd_k H | replace H := out_step H (by assumption))); refine loop_iter (G46_ok.at tok []) (ct := []) (F := (fun s1 : Int => ⟨sl [(0, (.tree (.int .i64) a0)), (1, (.tree (.int .i64) a1)), (5, (.v (.int .i64 s1)))], []⟩)) (step := (fun s : Int => laws_vWithin_loop1 _ _ s)) _ H (by kernel_rfl) (sub_auto ?_) ?_; rotate_left; (intro s1 r v hr H); rotate_right)
        | ((repeat (first | replace H := grd_k H | replace H := out_step H (by assumption))); refine again_step H (by assumption) (sub_auto ?_))
        | ((with_reducible refine fin_mk ?_); (repeat (first | replace H := grd_k H | replace H := out_step H (by assumption))); have H := Option.some.inj H; subst H))
    | constructor
def G47 : Env := G46.add 70 [] laws_vWithin.S
theorem G47_ok : EnvOk Try.prog G47 := G46_ok.add ent_70 fun ar h r h1 ⟨a0, a1, y, hy, e1, e2, e3, e4⟩ => by
  subst e3 e4; exact (laws_vWithin.spec a0 a1 y hy).le e1 e2
attribute [local irreducible] laws_vWithin

noncomputable def spec_l1Cur_windRule (a0 : l1Cur) : Option (WindRule × l1Cur) :=
  ((spec_l1Cur_among (a0.1, a0.2.1, a0.2.2.1, ()) [(5 : Int), (10 : Int), (12 : Int), (15 : Int)]).bind fun y1 => ((spec_l1Cur_among (y1.2.1, y1.2.2.1, y1.2.2.2.1, ()) [(16 : Int), (18 : Int), (20 : Int), (25 : Int)]).bind fun y2 => ((spec_l1Cur_among (y2.2.1, y2.2.2.1, y2.2.2.2.1, ()) [(1 : Int), (2 : Int), (3 : Int), (5 : Int)]).bind fun y3 => ((spec_l1Cur_among (y3.2.1, y3.2.2.1, y3.2.2.2.1, ()) [(1 : Int), (2 : Int), (3 : Int), (5 : Int), (10 : Int)]).bind fun y4 => ((spec_l1Cur_pick (y4.2.1, y4.2.2.1, y4.2.2.2.1, ()) (24 : Int)).bind fun y5 => (cond (decide (y5.1 = (0 : Int))) ((spec_l1Cur_among (y5.2.1, y5.2.2.1, y5.2.2.2.1, ()) [(0 : Int), (1 : Int), (2 : Int), (60 : Int), (59 : Int)]).bind fun y6 => (some ((y6.1, y2.1, y3.1, y4.1, ()), (y6.2.1, y6.2.2.1, y6.2.2.2.1, ())))) (cond (decide (y5.1 = (1 : Int))) ((spec_l1Cur_among (y5.2.1, y5.2.2.1, y5.2.2.2.1, ()) [(5 : Int), (60 : Int), (61 : Int)]).bind fun y7 => (some ((y1.1, y7.1, y3.1, y4.1, ()), (y7.2.1, y7.2.2.1, y7.2.2.2.1, ())))) (cond (decide (y5.1 = (2 : Int))) ((spec_l1Cur_among (y5.2.1, y5.2.2.1, y5.2.2.2.1, ()) [(0 : Int), (6 : Int), (16 : Int)]).bind fun y8 => (some ((y1.1, y2.1, y8.1, y4.1, ()), (y8.2.1, y8.2.2.1, y8.2.2.2.1, ())))) (cond (decide (y5.1 = (3 : Int))) ((spec_l1Cur_among (y5.2.1, y5.2.2.1, y5.2.2.2.1, ()) [(0 : Int), (11 : Int)]).bind fun y9 => (some ((y1.1, y2.1, y3.1, y9.1, ()), (y9.2.1, y9.2.2.1, y9.2.2.2.1, ())))) ((some ((y1.1, y2.1, y3.1, y4.1, ()), (y5.2.1, y5.2.2.1, y5.2.2.2.1, ())))))))))))))
def spec_l1Cur_windRule.res (_ : l1Cur) (y : WindRule × l1Cur) : AV := (.agg [(.v (.int .i64 y.1.1)), (.v (.int .i64 y.1.2.1)), (.v (.int .i64 y.1.2.2.1)), (.v (.int .i64 y.1.2.2.2.1))])
def spec_l1Cur_windRule.out (_ : l1Cur) (y : WindRule × l1Cur) : List (Option LB) := [some (.box 115 [(.tree (.int .u8) y.2.1), (.v (.int .i64 y.2.2.1)), (.v (.int .u64 y.2.2.2.1))])]
def spec_l1Cur_windRule.S (ar : List AV) (h : List (Option LB)) (r : AV) (h1 : List (Option LB)) : Prop := ∃ a0 y, spec_l1Cur_windRule a0 = some y ∧ leL ar [(.loc 0 0 0)] ∧ leH h [some (.box 115 [(.tree (.int .u8) a0.1), (.v (.int .i64 a0.2.1)), (.v (.int .u64 a0.2.2.1))])] ∧ r = spec_l1Cur_windRule.res a0 y ∧ h1 = spec_l1Cur_windRule.out a0 y
theorem spec_l1Cur_windRule.call {ar : List AV} {h : List (Option LB)} {a0 : l1Cur} {y : WindRule × l1Cur} (H : spec_l1Cur_windRule a0 = some y) (h0 : leLk ar [(.loc 0 0 0)] (leHk h [some (.box 115 [(.tree (.int .u8) a0.1), (.v (.int .i64 a0.2.1)), (.v (.int .u64 a0.2.2.1))])])) : spec_l1Cur_windRule.S ar h (spec_l1Cur_windRule.res a0 y) (spec_l1Cur_windRule.out a0 y) := ⟨a0, y, H, (args_ok h0).1, (args_ok h0).2, rfl, rfl⟩
set_option maxHeartbeats 100000000 in
set_option maxRecDepth 100000 in
theorem spec_l1Cur_windRule.spec (a0 : l1Cur) (y : WindRule × l1Cur) (H : spec_l1Cur_windRule a0 = some y) : Spec Try.prog 136 [(.loc 0 0 0)] [some (.box 115 [(.tree (.int .u8) a0.1), (.v (.int .i64 a0.2.1)), (.v (.int .u64 a0.2.2.1))])] (spec_l1Cur_windRule.res a0 y) (spec_l1Cur_windRule.out a0 y) := by
  refine spec_intro (G47_ok.at tok []) (ct := [(2, some [0, 2, 3]), (11, some [2, 3])]) Try.func136 rfl (by kernel_rfl) (by kernel_rfl) rfl ?_
  repeat' first
    | ((with_reducible refine eqg ?_); exact rfl)
    | ((with_reducible refine KOb.mk ?_); kernel_rfl)
    | ((with_reducible intro h); (repeat (first | replace H := grd_k H | replace H := out_step H (by assumption))); first | replace H := cond_t h H | replace H := cond_f h H | exact absurd h (by decide) | skip)
    | ((with_reducible refine Ob.mk ?_); first | (with_reducible rfl) | (first | ((repeat (first | (with_reducible exact grd_p H) | (replace H := grd_k H) | (replace H := out_step H (by assumption)))); done) | rfl | ((repeat (first | exact grd_p H | replace H := grd_k H | replace H := out_step H (by assumption))); done) | ((repeat (first | exact grd_p H | (have hp := grd_p H; exact hp) | replace H := grd_k H | replace H := out_step H (by assumption) | (replace H := bind_some H; obtain ⟨_, _, H⟩ := H))); done) | (repeat (first | exact grd_p H | replace H := grd_k H | replace H := out_step H (by assumption)))))
    | (with_reducible exact True.intro)
    | ((conv => whnf); first
        | (with_reducible refine And.intro ?_ ?_)
        | (with_reducible exact True.intro)
        | ((with_reducible refine Ob.mk ?_); first | (with_reducible rfl) | (first | ((repeat (first | (with_reducible exact grd_p H) | (replace H := grd_k H) | (replace H := out_step H (by assumption)))); done) | rfl | ((repeat (first | exact grd_p H | replace H := grd_k H | replace H := out_step H (by assumption))); done) | ((repeat (first | exact grd_p H | (have hp := grd_p H; exact hp) | replace H := grd_k H | replace H := out_step H (by assumption) | (replace H := bind_some H; obtain ⟨_, _, H⟩ := H))); done) | (repeat (first | exact grd_p H | replace H := grd_k H | replace H := out_step H (by assumption)))))
        | ((with_reducible refine CallW.mk ?_); (repeat (first | replace H := grd_k H | replace H := out_step H (by assumption))); replace H := bind_some H; obtain ⟨y, hy, H⟩ := H; first | ((with_reducible have hz : spec_l1Cur_among _ _ = some y := hy); clear hz; refine Exists.intro _ (Exists.intro _ ⟨spec_l1Cur_among.call hy ?_, rfl, rfl, ?_⟩)) | ((with_reducible have hz : spec_l1Cur_pick _ _ = some y := hy); clear hz; refine Exists.intro _ (Exists.intro _ ⟨spec_l1Cur_pick.call hy ?_, rfl, rfl, ?_⟩)))
        | ((with_reducible refine fin_mk ?_); (repeat (first | replace H := grd_k H | replace H := out_step H (by assumption))); have H := Option.some.inj H; subst H))
    | constructor
def G48 : Env := G47.add 136 [true] spec_l1Cur_windRule.S
theorem G48_ok : EnvOk Try.prog G48 := G47_ok.add ent_136 fun ar h r h1 ⟨a0, y, hy, e1, e2, e3, e4⟩ => by
  subst e3 e4; exact (spec_l1Cur_windRule.spec a0 y hy).le e1 e2
attribute [local irreducible] spec_l1Cur_windRule

end Go.Proofs.Ytpopcdnjnligiaa
