/-
  Contracts, printed by a program.
-/
import Derived.Test.YtplknllbpdookaaC10r1
namespace Go.Proofs.Ytplknllbpdookaa
open Go.RowKit
attribute [local irreducible] Ob loopwp Sub Spec Fin Again CallW CutC KOb iter joinx outm

attribute [local irreducible] laws_vBig spec_l1Cur_next spec_l1Cur_pick spec_l1Cur_among spec_l1Cur_windRule spec_l1Most spec_l1Cur_one spec_l1Cur_windState spec_l1Cur_votes spec_DrawRunWind impl_within impl_IsWindRule

noncomputable def impl_windOk (a0 : WindRule) (a1 : WindState) : Option (Bool) :=
  ((impl_IsWindRule (a0.1, a0.2.1, a0.2.2.1, a0.2.2.2.1, ())).bind fun y1 => (cond y1 ((impl_within a1.1 (0 : Int) (2 : Int)).bind fun y2 => (cond y2 ((impl_within a1.2.1 (0 : Int) (w64 (a0.2.2.2.1 - (1 : Int)))).bind fun y3 => (cond y3 (cond (!decide (a1.1 = (0 : Int))) ((some true)) ((some (decide (a1.2.1 = (0 : Int)))))) ((some false)))) ((some false)))) ((some false))))
def impl_windOk.res (_ : WindRule) (_ : WindState) (y : Bool) : AV := (.bl y)
def impl_windOk.out (_ : WindRule) (_ : WindState) (_ : Bool) : List (Option LB) := []
def impl_windOk.S (ar : List AV) (h : List (Option LB)) (r : AV) (h1 : List (Option LB)) : Prop := ∃ a0 a1 y, impl_windOk a0 a1 = some y ∧ leL ar [(.agg [(.v (.int .i64 a0.1)), (.v (.int .i64 a0.2.1)), (.v (.int .i64 a0.2.2.1)), (.v (.int .i64 a0.2.2.2.1))]), (.agg [(.v (.int .i64 a1.1)), (.v (.int .i64 a1.2.1))])] ∧ leH h [] ∧ r = impl_windOk.res a0 a1 y ∧ h1 = impl_windOk.out a0 a1 y
theorem impl_windOk.call {ar : List AV} {h : List (Option LB)} {a0 : WindRule} {a1 : WindState} {y : Bool} (H : impl_windOk a0 a1 = some y) (h0 : leLk ar [(.agg [(.v (.int .i64 a0.1)), (.v (.int .i64 a0.2.1)), (.v (.int .i64 a0.2.2.1)), (.v (.int .i64 a0.2.2.2.1))]), (.agg [(.v (.int .i64 a1.1)), (.v (.int .i64 a1.2.1))])] (leHk h [])) : impl_windOk.S ar h (impl_windOk.res a0 a1 y) (impl_windOk.out a0 a1 y) := ⟨a0, a1, y, H, (args_ok h0).1, (args_ok h0).2, rfl, rfl⟩
set_option maxHeartbeats 100000000 in
set_option maxRecDepth 100000 in
theorem impl_windOk.spec (a0 : WindRule) (a1 : WindState) (y : Bool) (H : impl_windOk a0 a1 = some y) : Spec Try.prog 94 [(.agg [(.v (.int .i64 a0.1)), (.v (.int .i64 a0.2.1)), (.v (.int .i64 a0.2.2.1)), (.v (.int .i64 a0.2.2.2.1))]), (.agg [(.v (.int .i64 a1.1)), (.v (.int .i64 a1.2.1))])] [] (impl_windOk.res a0 a1 y) (impl_windOk.out a0 a1 y) := by
  refine spec_intro (G12_ok.at tok []) (ct := []) Try.func94 rfl (by kernel_rfl) (by kernel_rfl) rfl ?_
  repeat' first
    | ((with_reducible refine eqg ?_); exact rfl)
    | ((with_reducible refine KOb.mk ?_); kernel_rfl)
    | ((with_reducible intro h); (repeat (first | replace H := grd_k H | replace H := out_step H (by assumption))); first | replace H := cond_t h H | replace H := cond_f h H | exact absurd h (by decide) | skip)
    | ((with_reducible refine Ob.mk ?_); first | rfl | (repeat (first | exact grd_p H | replace H := grd_k H | replace H := out_step H (by assumption))))
    | (with_reducible exact True.intro)
    | constructor
    | ((conv => whnf); first
        | ((with_reducible refine Ob.mk ?_); first | rfl | (repeat (first | exact grd_p H | replace H := grd_k H | replace H := out_step H (by assumption))))
        | ((with_reducible refine CallW.mk ?_); (repeat (first | replace H := grd_k H | replace H := out_step H (by assumption))); replace H := bind_some H; obtain ⟨y, hy, H⟩ := H; first | ((with_reducible have hz : impl_IsWindRule _ = some y := hy); clear hz; refine Exists.intro _ (Exists.intro _ ⟨impl_IsWindRule.call hy ?_, rfl, rfl, ?_⟩)) | ((with_reducible have hz : impl_within _ _ _ = some y := hy); clear hz; refine Exists.intro _ (Exists.intro _ ⟨impl_within.call hy ?_, rfl, rfl, ?_⟩)))
        | ((with_reducible refine fin_mk ?_); (repeat (first | replace H := grd_k H | replace H := out_step H (by assumption))); have H := Option.some.inj H; subst H))
def G13 : Env := G12.add 94 [] impl_windOk.S
theorem G13_ok : EnvOk Try.prog G13 := G12_ok.add ent_94 fun ar h r h1 ⟨a0, a1, y, hy, e1, e2, e3, e4⟩ => by
  subst e3 e4; exact (impl_windOk.spec a0 a1 y hy).le e1 e2
attribute [local irreducible] impl_windOk

noncomputable def impl_allIn_loop1 (a0 : (List Int)) (a1 : Int) (a2 : Int) (v4 : Int) : Option (Lp (Int) ((Unit) ⊕ (Unit))) :=
  (cond (decide (v4 < (a0.length : Int))) (grd (0 ≤ v4 ∧ v4 < (a0.length : Int)) ((impl_within (a0.getD v4.toNat 0) a1 a2).bind fun y5 => (cond (!y5) ((some (.out (Sum.inl ())))) (some (.go (w64 (v4 + (1 : Int)))))))) ((some (.out (Sum.inr ())))))
noncomputable def impl_allIn (a0 : (List Int)) (a1 : Int) (a2 : Int) : Option (Bool) :=
  ((iter (fun s => impl_allIn_loop1 a0 a1 a2 s) (0 : Int)).bind (Sum.elim (fun r7 => (some false)) (fun r8 => (some true))))
def impl_allIn.res (_ : (List Int)) (_ : Int) (_ : Int) (y : Bool) : AV := (.bl y)
def impl_allIn.out (_ : (List Int)) (_ : Int) (_ : Int) (_ : Bool) : List (Option LB) := []
def impl_allIn.S (ar : List AV) (h : List (Option LB)) (r : AV) (h1 : List (Option LB)) : Prop := ∃ a0 a1 a2 y, impl_allIn a0 a1 a2 = some y ∧ leL ar [(.tree (.int .i64) a0), (.v (.int .i64 a1)), (.v (.int .i64 a2))] ∧ leH h [] ∧ r = impl_allIn.res a0 a1 a2 y ∧ h1 = impl_allIn.out a0 a1 a2 y
theorem impl_allIn.call {ar : List AV} {h : List (Option LB)} {a0 : (List Int)} {a1 : Int} {a2 : Int} {y : Bool} (H : impl_allIn a0 a1 a2 = some y) (h0 : leLk ar [(.tree (.int .i64) a0), (.v (.int .i64 a1)), (.v (.int .i64 a2))] (leHk h [])) : impl_allIn.S ar h (impl_allIn.res a0 a1 a2 y) (impl_allIn.out a0 a1 a2 y) := ⟨a0, a1, a2, y, H, (args_ok h0).1, (args_ok h0).2, rfl, rfl⟩
set_option maxHeartbeats 100000000 in
set_option maxRecDepth 100000 in
theorem impl_allIn.spec (a0 : (List Int)) (a1 : Int) (a2 : Int) (y : Bool) (H : impl_allIn a0 a1 a2 = some y) : Spec Try.prog 133 [(.tree (.int .i64) a0), (.v (.int .i64 a1)), (.v (.int .i64 a2))] [] (impl_allIn.res a0 a1 a2 y) (impl_allIn.out a0 a1 a2 y) := by
  refine spec_intro (G13_ok.at tok []) (ct := []) Try.func133 rfl (by kernel_rfl) (by kernel_rfl) rfl ?_
  repeat' first
    | ((with_reducible refine eqg ?_); exact rfl)
    | ((with_reducible refine KOb.mk ?_); kernel_rfl)
    | ((with_reducible intro h); (repeat (first | replace H := grd_k H | replace H := out_step H (by assumption))); first | replace H := cond_t h H | replace H := cond_f h H | exact absurd h (by decide) | skip)
    | ((with_reducible refine Ob.mk ?_); first | rfl | (repeat (first | exact grd_p H | replace H := grd_k H | replace H := out_step H (by assumption))))
    | (with_reducible exact True.intro)
    | constructor
    | ((conv => whnf); first
        | ((with_reducible refine Ob.mk ?_); first | rfl | (repeat (first | exact grd_p H | replace H := grd_k H | replace H := out_step H (by assumption))))
        | ((with_reducible refine CallW.mk ?_); (repeat (first | replace H := grd_k H | replace H := out_step H (by assumption))); replace H := bind_some H; obtain ⟨y, hy, H⟩ := H; first | ((with_reducible have hz : impl_within _ _ _ = some y := hy); clear hz; refine Exists.intro _ (Exists.intro _ ⟨impl_within.call hy ?_, rfl, rfl, ?_⟩)))
        | ((repeat (first | replace H := grd_k H | replace H := out_step H (by assumption))); refine loop_iter (G13_ok.at tok []) (ct := []) (F := (fun s1 : Int => ⟨sl [(1, (.v (.int .i64 a1))), (2, (.v (.int .i64 a2))), (9, (.tree (.int .i64) a0)), (10, (.v (.int .i64 (a0.length : Int)))), (11, (.v (.int .i64 s1)))], []⟩)) (step := (fun s : Int => impl_allIn_loop1 _ _ _ s)) _ H (by kernel_rfl) (sub_auto ?_) ?_; rotate_left; (intro s1 r v hr H); rotate_right)
        | ((repeat (first | replace H := grd_k H | replace H := out_step H (by assumption))); refine again_step H (by assumption) (sub_auto ?_))
        | ((with_reducible refine fin_mk ?_); (repeat (first | replace H := grd_k H | replace H := out_step H (by assumption))); have H := Option.some.inj H; subst H))
def G14 : Env := G13.add 133 [] impl_allIn.S
theorem G14_ok : EnvOk Try.prog G14 := G13_ok.add ent_133 fun ar h r h1 ⟨a0, a1, a2, y, hy, e1, e2, e3, e4⟩ => by
  subst e3 e4; exact (impl_allIn.spec a0 a1 a2 y hy).le e1 e2
attribute [local irreducible] impl_allIn

noncomputable def impl_areVotes (a0 : (List Int)) : Option (Bool) :=
  (cond (decide ((a0.length : Int) ≤ (50 : Int))) ((impl_allIn a0 (0 : Int) (60 : Int)).bind fun y1 => (some y1)) ((some false)))
def impl_areVotes.res (_ : (List Int)) (y : Bool) : AV := (.bl y)
def impl_areVotes.out (_ : (List Int)) (_ : Bool) : List (Option LB) := []
def impl_areVotes.S (ar : List AV) (h : List (Option LB)) (r : AV) (h1 : List (Option LB)) : Prop := ∃ a0 y, impl_areVotes a0 = some y ∧ leL ar [(.tree (.int .i64) a0)] ∧ leH h [] ∧ r = impl_areVotes.res a0 y ∧ h1 = impl_areVotes.out a0 y
theorem impl_areVotes.call {ar : List AV} {h : List (Option LB)} {a0 : (List Int)} {y : Bool} (H : impl_areVotes a0 = some y) (h0 : leLk ar [(.tree (.int .i64) a0)] (leHk h [])) : impl_areVotes.S ar h (impl_areVotes.res a0 y) (impl_areVotes.out a0 y) := ⟨a0, y, H, (args_ok h0).1, (args_ok h0).2, rfl, rfl⟩
set_option maxHeartbeats 100000000 in
set_option maxRecDepth 100000 in
theorem impl_areVotes.spec (a0 : (List Int)) (y : Bool) (H : impl_areVotes a0 = some y) : Spec Try.prog 91 [(.tree (.int .i64) a0)] [] (impl_areVotes.res a0 y) (impl_areVotes.out a0 y) := by
  refine spec_intro (G14_ok.at tok []) (ct := []) Try.func91 rfl (by kernel_rfl) (by kernel_rfl) rfl ?_
  repeat' first
    | ((with_reducible refine eqg ?_); exact rfl)
    | ((with_reducible refine KOb.mk ?_); kernel_rfl)
    | ((with_reducible intro h); (repeat (first | replace H := grd_k H | replace H := out_step H (by assumption))); first | replace H := cond_t h H | replace H := cond_f h H | exact absurd h (by decide) | skip)
    | ((with_reducible refine Ob.mk ?_); first | rfl | (repeat (first | exact grd_p H | replace H := grd_k H | replace H := out_step H (by assumption))))
    | (with_reducible exact True.intro)
    | constructor
    | ((conv => whnf); first
        | ((with_reducible refine Ob.mk ?_); first | rfl | (repeat (first | exact grd_p H | replace H := grd_k H | replace H := out_step H (by assumption))))
        | ((with_reducible refine CallW.mk ?_); (repeat (first | replace H := grd_k H | replace H := out_step H (by assumption))); replace H := bind_some H; obtain ⟨y, hy, H⟩ := H; first | ((with_reducible have hz : impl_allIn _ _ _ = some y := hy); clear hz; refine Exists.intro _ (Exists.intro _ ⟨impl_allIn.call hy ?_, rfl, rfl, ?_⟩)))
        | ((with_reducible refine fin_mk ?_); (repeat (first | replace H := grd_k H | replace H := out_step H (by assumption))); have H := Option.some.inj H; subst H))
def G15 : Env := G14.add 91 [] impl_areVotes.S
theorem G15_ok : EnvOk Try.prog G15 := G14_ok.add ent_91 fun ar h r h1 ⟨a0, y, hy, e1, e2, e3, e4⟩ => by
  subst e3 e4; exact (impl_areVotes.spec a0 y hy).le e1 e2
attribute [local irreducible] impl_areVotes

noncomputable def impl_WindRule_next (a0 : WindRule) (a1 : WindState) (a2 : Int) : Option (WindState) :=
  (cond (decide (a0.2.1 ≤ a2)) ((some ((2 : Int), (0 : Int), ()))) (cond (decide (a1.1 = (0 : Int))) (cond (decide (a0.1 ≤ a2)) ((some ((1 : Int), (0 : Int), ()))) (cond (decide (a1.1 = (0 : Int))) ((some (a1.1, a1.2.1, ()))) ((cond (decide (a1.1 = (2 : Int))) ((some a0.2.1)) ((some a0.1))).bind fun z1 => (cond (decide ((w64 (z1 - a0.2.2.1)) ≤ a2)) ((some (a1.1, (0 : Int), ()))) (cond (decide ((w64 (a1.2.1 + (1 : Int))) = a0.2.2.2.1)) ((some ((w64 (a1.1 - (1 : Int))), (0 : Int), ()))) ((some (a1.1, (w64 (a1.2.1 + (1 : Int))), ())))))))) (cond (decide (a1.1 = (0 : Int))) ((some (a1.1, a1.2.1, ()))) ((cond (decide (a1.1 = (2 : Int))) ((some a0.2.1)) ((some a0.1))).bind fun z2 => (cond (decide ((w64 (z2 - a0.2.2.1)) ≤ a2)) ((some (a1.1, (0 : Int), ()))) (cond (decide ((w64 (a1.2.1 + (1 : Int))) = a0.2.2.2.1)) ((some ((w64 (a1.1 - (1 : Int))), (0 : Int), ()))) ((some (a1.1, (w64 (a1.2.1 + (1 : Int))), ())))))))))
def impl_WindRule_next.res (_ : WindRule) (_ : WindState) (_ : Int) (y : WindState) : AV := (.agg [(.v (.int .i64 y.1)), (.v (.int .i64 y.2.1))])
def impl_WindRule_next.out (_ : WindRule) (_ : WindState) (_ : Int) (_ : WindState) : List (Option LB) := []
def impl_WindRule_next.S (ar : List AV) (h : List (Option LB)) (r : AV) (h1 : List (Option LB)) : Prop := ∃ a0 a1 a2 y, impl_WindRule_next a0 a1 a2 = some y ∧ leL ar [(.agg [(.v (.int .i64 a0.1)), (.v (.int .i64 a0.2.1)), (.v (.int .i64 a0.2.2.1)), (.v (.int .i64 a0.2.2.2.1))]), (.agg [(.v (.int .i64 a1.1)), (.v (.int .i64 a1.2.1))]), (.v (.int .i64 a2))] ∧ leH h [] ∧ r = impl_WindRule_next.res a0 a1 a2 y ∧ h1 = impl_WindRule_next.out a0 a1 a2 y
theorem impl_WindRule_next.call {ar : List AV} {h : List (Option LB)} {a0 : WindRule} {a1 : WindState} {a2 : Int} {y : WindState} (H : impl_WindRule_next a0 a1 a2 = some y) (h0 : leLk ar [(.agg [(.v (.int .i64 a0.1)), (.v (.int .i64 a0.2.1)), (.v (.int .i64 a0.2.2.1)), (.v (.int .i64 a0.2.2.2.1))]), (.agg [(.v (.int .i64 a1.1)), (.v (.int .i64 a1.2.1))]), (.v (.int .i64 a2))] (leHk h [])) : impl_WindRule_next.S ar h (impl_WindRule_next.res a0 a1 a2 y) (impl_WindRule_next.out a0 a1 a2 y) := ⟨a0, a1, a2, y, H, (args_ok h0).1, (args_ok h0).2, rfl, rfl⟩
set_option maxHeartbeats 100000000 in
set_option maxRecDepth 100000 in
theorem impl_WindRule_next.spec (a0 : WindRule) (a1 : WindState) (a2 : Int) (y : WindState) (H : impl_WindRule_next a0 a1 a2 = some y) : Spec Try.prog 109 [(.agg [(.v (.int .i64 a0.1)), (.v (.int .i64 a0.2.1)), (.v (.int .i64 a0.2.2.1)), (.v (.int .i64 a0.2.2.2.1))]), (.agg [(.v (.int .i64 a1.1)), (.v (.int .i64 a1.2.1))]), (.v (.int .i64 a2))] [] (impl_WindRule_next.res a0 a1 a2 y) (impl_WindRule_next.out a0 a1 a2 y) := by
  refine spec_intro (G15_ok.at tok []) (ct := [(10, none), (4, some [2, 3, 4, 6, 14]), (9, some [2, 3, 4, 6, 7, 34]), (14, some [4, 6, 54])]) Try.func109 rfl (by kernel_rfl) (by kernel_rfl) rfl ?_
  repeat' first
    | ((with_reducible refine eqg ?_); exact rfl)
    | ((with_reducible refine KOb.mk ?_); kernel_rfl)
    | ((with_reducible intro h); (repeat (first | replace H := grd_k H | replace H := out_step H (by assumption))); first | replace H := cond_t h H | replace H := cond_f h H | exact absurd h (by decide) | skip)
    | ((with_reducible refine Ob.mk ?_); first | rfl | (repeat (first | exact grd_p H | replace H := grd_k H | replace H := out_step H (by assumption))))
    | (with_reducible exact True.intro)
    | constructor
    | ((conv => whnf); first
        | ((with_reducible refine Ob.mk ?_); first | rfl | (repeat (first | exact grd_p H | replace H := grd_k H | replace H := out_step H (by assumption))))
        | ((with_reducible refine cutAt (id := 10) ?_); (repeat (first | replace H := grd_k H | replace H := out_step H (by assumption))); first | (replace H := bind_some H; obtain ⟨z, hz, H⟩ := H; refine CutC.mk (id := 10) ⟨sl [(2, (.v (.int .i64 a2))), (3, (.loc 0 0 0)), (4, (.loc 1 0 0)), (6, (.loc 2 0 0)), (7, (.v (.int .i64 z)))], [some (.box 27 [(.v (.int .i64 a0.1)), (.v (.int .i64 a0.2.1)), (.v (.int .i64 a0.2.2.1)), (.v (.int .i64 a0.2.2.2.1))]), some (.box 36 [(.v (.int .i64 a1.1)), (.v (.int .i64 a1.2.1))]), some (.box 36 [(.v (.int .i64 (0 : Int))), (.v (.int .i64 (0 : Int)))])]⟩ ?_ ?_; (replace H := hz)))
        | ((repeat (first | replace H := grd_k H | replace H := out_step H (by assumption))); have H := Option.some.inj H; subst H; with_reducible refine sub_auto ?_)
        | ((with_reducible refine fin_mk ?_); (repeat (first | replace H := grd_k H | replace H := out_step H (by assumption))); have H := Option.some.inj H; subst H))
def G16 : Env := G15.add 109 [] impl_WindRule_next.S
theorem G16_ok : EnvOk Try.prog G16 := G15_ok.add ent_109 fun ar h r h1 ⟨a0, a1, a2, y, hy, e1, e2, e3, e4⟩ => by
  subst e3 e4; exact (impl_WindRule_next.spec a0 a1 a2 y hy).le e1 e2
attribute [local irreducible] impl_WindRule_next

noncomputable def impl_WindRule_run_loop1 (a0 : WindRule) (a2 : (List Int)) (v7 : Int) (v8 : Int) (v9 : Int) (v10 : (List Int)) : Option (Lp (Int × Int × Int × (List Int)) ((Int × Int × (List Int)))) :=
  (cond (decide (v7 < (a2.length : Int))) (grd (0 ≤ v7 ∧ v7 < (a2.length : Int)) ((impl_WindRule_next (a0.1, a0.2.1, a0.2.2.1, a0.2.2.2.1, ()) (v8, v9, ()) (a2.getD v7.toNat 0)).bind fun y11 => (grd ((v10.length + [y11.1].length) * 8 ≤ 140737488355328 ∧ v10.length + [y11.1].length ≤ 140737488355328) (some (.go ((w64 (v7 + (1 : Int))), y11.1, y11.2.1, (v10 ++ [y11.1]))))))) ((some (.out (v8, v9, v10)))))
noncomputable def impl_WindRule_run (a0 : WindRule) (a1 : WindState) (a2 : (List Int)) : Option ((List Int) × WindState) :=
  ((iter (fun s => impl_WindRule_run_loop1 a0 a2 s.1 s.2.1 s.2.2.1 s.2.2.2) ((0 : Int), a1.1, a1.2.1, ([] : List Int))).bind (fun r12 => (some (r12.2.2, (r12.1, r12.2.1, ())))))
def impl_WindRule_run.res (_ : WindRule) (_ : WindState) (_ : (List Int)) (y : (List Int) × WindState) : AV := (.tup [(.own 0), (.agg [(.v (.int .i64 y.2.1)), (.v (.int .i64 y.2.2.1))])])
def impl_WindRule_run.out (_ : WindRule) (_ : WindState) (_ : (List Int)) (y : (List Int) × WindState) : List (Option LB) := [some (.arr 3 (.int .i64) y.1)]
def impl_WindRule_run.S (ar : List AV) (h : List (Option LB)) (r : AV) (h1 : List (Option LB)) : Prop := ∃ a0 a1 a2 y, impl_WindRule_run a0 a1 a2 = some y ∧ leL ar [(.agg [(.v (.int .i64 a0.1)), (.v (.int .i64 a0.2.1)), (.v (.int .i64 a0.2.2.1)), (.v (.int .i64 a0.2.2.2.1))]), (.agg [(.v (.int .i64 a1.1)), (.v (.int .i64 a1.2.1))]), (.tree (.int .i64) a2)] ∧ leH h [] ∧ r = impl_WindRule_run.res a0 a1 a2 y ∧ h1 = impl_WindRule_run.out a0 a1 a2 y
theorem impl_WindRule_run.call {ar : List AV} {h : List (Option LB)} {a0 : WindRule} {a1 : WindState} {a2 : (List Int)} {y : (List Int) × WindState} (H : impl_WindRule_run a0 a1 a2 = some y) (h0 : leLk ar [(.agg [(.v (.int .i64 a0.1)), (.v (.int .i64 a0.2.1)), (.v (.int .i64 a0.2.2.1)), (.v (.int .i64 a0.2.2.2.1))]), (.agg [(.v (.int .i64 a1.1)), (.v (.int .i64 a1.2.1))]), (.tree (.int .i64) a2)] (leHk h [])) : impl_WindRule_run.S ar h (impl_WindRule_run.res a0 a1 a2 y) (impl_WindRule_run.out a0 a1 a2 y) := ⟨a0, a1, a2, y, H, (args_ok h0).1, (args_ok h0).2, rfl, rfl⟩
set_option maxHeartbeats 100000000 in
set_option maxRecDepth 100000 in
theorem impl_WindRule_run.spec (a0 : WindRule) (a1 : WindState) (a2 : (List Int)) (y : (List Int) × WindState) (H : impl_WindRule_run a0 a1 a2 = some y) : Spec Try.prog 92 [(.agg [(.v (.int .i64 a0.1)), (.v (.int .i64 a0.2.1)), (.v (.int .i64 a0.2.2.1)), (.v (.int .i64 a0.2.2.2.1))]), (.agg [(.v (.int .i64 a1.1)), (.v (.int .i64 a1.2.1))]), (.tree (.int .i64) a2)] [] (impl_WindRule_run.res a0 a1 a2 y) (impl_WindRule_run.out a0 a1 a2 y) := by
  refine spec_intro (G16_ok.at tok []) (ct := [(7, some [3, 4, 7, 8, 12, 13, 14])]) Try.func92 rfl (by kernel_rfl) (by kernel_rfl) rfl ?_
  repeat' first
    | ((with_reducible refine eqg ?_); exact rfl)
    | ((with_reducible refine KOb.mk ?_); kernel_rfl)
    | ((with_reducible intro h); (repeat (first | replace H := grd_k H | replace H := out_step H (by assumption))); first | replace H := cond_t h H | replace H := cond_f h H | exact absurd h (by decide) | skip)
    | ((with_reducible refine Ob.mk ?_); first | rfl | (repeat (first | exact grd_p H | replace H := grd_k H | replace H := out_step H (by assumption))))
    | (with_reducible exact True.intro)
    | constructor
    | ((conv => whnf); first
        | ((with_reducible refine Ob.mk ?_); first | rfl | (repeat (first | exact grd_p H | replace H := grd_k H | replace H := out_step H (by assumption))))
        | ((with_reducible refine CallW.mk ?_); (repeat (first | replace H := grd_k H | replace H := out_step H (by assumption))); replace H := bind_some H; obtain ⟨y, hy, H⟩ := H; first | ((with_reducible have hz : impl_WindRule_next _ _ _ = some y := hy); clear hz; refine Exists.intro _ (Exists.intro _ ⟨impl_WindRule_next.call hy ?_, rfl, rfl, ?_⟩)))
        | ((repeat (first | replace H := grd_k H | replace H := out_step H (by assumption))); refine loop_iter (G16_ok.at tok []) (ct := [(7, some [3, 4, 7, 8, 12, 13, 14])]) (F := (fun s1 : Int × Int × Int × (List Int) => ⟨sl [(3, (.loc 0 0 0)), (4, (.loc 1 0 0)), (7, (.loc 2 0 0)), (8, (.own 3)), (12, (.tree (.int .i64) a2)), (13, (.v (.int .i64 (a2.length : Int)))), (14, (.v (.int .i64 s1.1)))], [some (.box 27 [(.v (.int .i64 a0.1)), (.v (.int .i64 a0.2.1)), (.v (.int .i64 a0.2.2.1)), (.v (.int .i64 a0.2.2.2.1))]), some (.box 36 [(.v (.int .i64 s1.2.1)), (.v (.int .i64 s1.2.2.1))]), some (.box 36 [(.v (.int .i64 (0 : Int))), (.v (.int .i64 (0 : Int)))]), some (.arr 3 (.int .i64) s1.2.2.2)]⟩)) (step := (fun s : Int × Int × Int × (List Int) => impl_WindRule_run_loop1 _ _ s.1 s.2.1 s.2.2.1 s.2.2.2)) _ H (by kernel_rfl) (sub_auto ?_) ?_; rotate_left; (intro s1 r v hr H); rotate_right)
        | ((repeat (first | replace H := grd_k H | replace H := out_step H (by assumption))); refine again_step H (by assumption) (sub_auto ?_))
        | ((with_reducible refine fin_mk ?_); (repeat (first | replace H := grd_k H | replace H := out_step H (by assumption))); have H := Option.some.inj H; subst H))
def G17 : Env := G16.add 92 [] impl_WindRule_run.S
theorem G17_ok : EnvOk Try.prog G17 := G16_ok.add ent_92 fun ar h r h1 ⟨a0, a1, a2, y, hy, e1, e2, e3, e4⟩ => by
  subst e3 e4; exact (impl_WindRule_run.spec a0 a1 a2 y hy).le e1 e2
attribute [local irreducible] impl_WindRule_run

noncomputable def impl_RunWind (a0 : WindRule) (a1 : WindState) (a2 : (List Int)) : Option ((WindState) ⊕ ((List Int) × WindState)) :=
  ((impl_windOk (a0.1, a0.2.1, a0.2.2.1, a0.2.2.2.1, ()) (a1.1, a1.2.1, ())).bind fun y1 => (cond (!y1) ((some (Sum.inl ((0 : Int), (0 : Int), ())))) ((impl_areVotes a2).bind fun y2 => (cond (!y2) ((some (Sum.inl ((0 : Int), (0 : Int), ())))) ((impl_WindRule_run (a0.1, a0.2.1, a0.2.2.1, a0.2.2.2.1, ()) (a1.1, a1.2.1, ()) a2).bind fun y3 => (some (Sum.inr (y3.1, (y3.2.1, y3.2.2.1, ())))))))))
def impl_RunWind.res (_ : WindRule) (_ : WindState) (_ : (List Int)) (y : (WindState) ⊕ ((List Int) × WindState)) : AV := match y with
  | (.inl y) => (.tup [(.v (.slice none 0 0)), (.agg [(.v (.int .i64 y.1)), (.v (.int .i64 y.2.1))]), (.v (.bool false))])
  | (.inr y) => (.tup [(.own 0), (.agg [(.v (.int .i64 y.2.1)), (.v (.int .i64 y.2.2.1))]), (.v (.bool true))])
def impl_RunWind.out (_ : WindRule) (_ : WindState) (_ : (List Int)) (y : (WindState) ⊕ ((List Int) × WindState)) : List (Option LB) := match y with
  | (.inl y) => []
  | (.inr y) => [some (.arr 3 (.int .i64) y.1)]
def impl_RunWind.S (ar : List AV) (h : List (Option LB)) (r : AV) (h1 : List (Option LB)) : Prop := ∃ a0 a1 a2 y, impl_RunWind a0 a1 a2 = some y ∧ leL ar [(.agg [(.v (.int .i64 a0.1)), (.v (.int .i64 a0.2.1)), (.v (.int .i64 a0.2.2.1)), (.v (.int .i64 a0.2.2.2.1))]), (.agg [(.v (.int .i64 a1.1)), (.v (.int .i64 a1.2.1))]), (.tree (.int .i64) a2)] ∧ leH h [] ∧ r = impl_RunWind.res a0 a1 a2 y ∧ h1 = impl_RunWind.out a0 a1 a2 y
theorem impl_RunWind.call {ar : List AV} {h : List (Option LB)} {a0 : WindRule} {a1 : WindState} {a2 : (List Int)} {y : (WindState) ⊕ ((List Int) × WindState)} (H : impl_RunWind a0 a1 a2 = some y) (h0 : leLk ar [(.agg [(.v (.int .i64 a0.1)), (.v (.int .i64 a0.2.1)), (.v (.int .i64 a0.2.2.1)), (.v (.int .i64 a0.2.2.2.1))]), (.agg [(.v (.int .i64 a1.1)), (.v (.int .i64 a1.2.1))]), (.tree (.int .i64) a2)] (leHk h [])) : impl_RunWind.S ar h (impl_RunWind.res a0 a1 a2 y) (impl_RunWind.out a0 a1 a2 y) := ⟨a0, a1, a2, y, H, (args_ok h0).1, (args_ok h0).2, rfl, rfl⟩
set_option maxHeartbeats 100000000 in
set_option maxRecDepth 100000 in
theorem impl_RunWind.spec (a0 : WindRule) (a1 : WindState) (a2 : (List Int)) (y : (WindState) ⊕ ((List Int) × WindState)) (H : impl_RunWind a0 a1 a2 = some y) : Spec Try.prog 24 [(.agg [(.v (.int .i64 a0.1)), (.v (.int .i64 a0.2.1)), (.v (.int .i64 a0.2.2.1)), (.v (.int .i64 a0.2.2.2.1))]), (.agg [(.v (.int .i64 a1.1)), (.v (.int .i64 a1.2.1))]), (.tree (.int .i64) a2)] [] (impl_RunWind.res a0 a1 a2 y) (impl_RunWind.out a0 a1 a2 y) := by
  have hlen : Nat.ble ([] : List (Option LB)).length (impl_RunWind.out a0 a1 a2 y).length = true := by
    rcases y with y | y <;> rfl
  refine spec_intro (G17_ok.at tok []) (ct := [(2, some [2, 3, 4, 7, 19])]) Try.func24 rfl (by kernel_rfl) (by kernel_rfl) hlen ?_
  repeat' first
    | ((with_reducible refine eqg ?_); exact rfl)
    | ((with_reducible refine KOb.mk ?_); kernel_rfl)
    | ((with_reducible intro h); (repeat (first | replace H := grd_k H | replace H := out_step H (by assumption))); first | replace H := cond_t h H | replace H := cond_f h H | exact absurd h (by decide) | skip)
    | ((with_reducible refine Ob.mk ?_); first | rfl | (repeat (first | exact grd_p H | replace H := grd_k H | replace H := out_step H (by assumption))))
    | (with_reducible exact True.intro)
    | constructor
    | ((conv => whnf); first
        | ((with_reducible refine Ob.mk ?_); first | rfl | (repeat (first | exact grd_p H | replace H := grd_k H | replace H := out_step H (by assumption))))
        | ((with_reducible refine CallW.mk ?_); (repeat (first | replace H := grd_k H | replace H := out_step H (by assumption))); replace H := bind_some H; obtain ⟨y, hy, H⟩ := H; first | ((with_reducible have hz : impl_windOk _ _ = some y := hy); clear hz; refine Exists.intro _ (Exists.intro _ ⟨impl_windOk.call hy ?_, rfl, rfl, ?_⟩)) | ((with_reducible have hz : impl_areVotes _ = some y := hy); clear hz; refine Exists.intro _ (Exists.intro _ ⟨impl_areVotes.call hy ?_, rfl, rfl, ?_⟩)) | ((with_reducible have hz : impl_WindRule_run _ _ _ = some y := hy); clear hz; refine Exists.intro _ (Exists.intro _ ⟨impl_WindRule_run.call hy ?_, rfl, rfl, ?_⟩)))
        | ((with_reducible refine fin_mk ?_); (repeat (first | replace H := grd_k H | replace H := out_step H (by assumption))); have H := Option.some.inj H; subst H))
def G18 : Env := G17.add 24 [] impl_RunWind.S
theorem G18_ok : EnvOk Try.prog G18 := G17_ok.add ent_24 fun ar h r h1 ⟨a0, a1, a2, y, hy, e1, e2, e3, e4⟩ => by
  subst e3 e4; exact (impl_RunWind.spec a0 a1 a2 y hy).le e1 e2
attribute [local irreducible] impl_RunWind

noncomputable def spec_l1In (a0 : Int) (a1 : Int) (a2 : Int) : Option (Bool) :=
  (cond (decide (a1 ≤ a0)) ((some (decide (a0 ≤ a2)))) ((some false)))
def spec_l1In.res (_ : Int) (_ : Int) (_ : Int) (y : Bool) : AV := (.bl y)
def spec_l1In.out (_ : Int) (_ : Int) (_ : Int) (_ : Bool) : List (Option LB) := []
def spec_l1In.S (ar : List AV) (h : List (Option LB)) (r : AV) (h1 : List (Option LB)) : Prop := ∃ a0 a1 a2 y, spec_l1In a0 a1 a2 = some y ∧ leL ar [(.v (.int .i64 a0)), (.v (.int .i64 a1)), (.v (.int .i64 a2))] ∧ leH h [] ∧ r = spec_l1In.res a0 a1 a2 y ∧ h1 = spec_l1In.out a0 a1 a2 y
theorem spec_l1In.call {ar : List AV} {h : List (Option LB)} {a0 : Int} {a1 : Int} {a2 : Int} {y : Bool} (H : spec_l1In a0 a1 a2 = some y) (h0 : leLk ar [(.v (.int .i64 a0)), (.v (.int .i64 a1)), (.v (.int .i64 a2))] (leHk h [])) : spec_l1In.S ar h (spec_l1In.res a0 a1 a2 y) (spec_l1In.out a0 a1 a2 y) := ⟨a0, a1, a2, y, H, (args_ok h0).1, (args_ok h0).2, rfl, rfl⟩
set_option maxHeartbeats 100000000 in
set_option maxRecDepth 100000 in
theorem spec_l1In.spec (a0 : Int) (a1 : Int) (a2 : Int) (y : Bool) (H : spec_l1In a0 a1 a2 = some y) : Spec Try.prog 120 [(.v (.int .i64 a0)), (.v (.int .i64 a1)), (.v (.int .i64 a2))] [] (spec_l1In.res a0 a1 a2 y) (spec_l1In.out a0 a1 a2 y) := by
  refine spec_intro (G18_ok.at tok []) (ct := []) Try.func120 rfl (by kernel_rfl) (by kernel_rfl) rfl ?_
  repeat' first
    | ((with_reducible refine eqg ?_); exact rfl)
    | ((with_reducible refine KOb.mk ?_); kernel_rfl)
    | ((with_reducible intro h); (repeat (first | replace H := grd_k H | replace H := out_step H (by assumption))); first | replace H := cond_t h H | replace H := cond_f h H | exact absurd h (by decide) | skip)
    | ((with_reducible refine Ob.mk ?_); first | rfl | (repeat (first | exact grd_p H | replace H := grd_k H | replace H := out_step H (by assumption))))
    | (with_reducible exact True.intro)
    | constructor
    | ((conv => whnf); first
        | ((with_reducible refine Ob.mk ?_); first | rfl | (repeat (first | exact grd_p H | replace H := grd_k H | replace H := out_step H (by assumption))))
        | ((with_reducible refine fin_mk ?_); (repeat (first | replace H := grd_k H | replace H := out_step H (by assumption))); have H := Option.some.inj H; subst H))
def G19 : Env := G18.add 120 [] spec_l1In.S
theorem G19_ok : EnvOk Try.prog G19 := G18_ok.add ent_120 fun ar h r h1 ⟨a0, a1, a2, y, hy, e1, e2, e3, e4⟩ => by
  subst e3 e4; exact (spec_l1In.spec a0 a1 a2 y hy).le e1 e2
attribute [local irreducible] spec_l1In

noncomputable def spec_l12Rule (a0 : WindRule) : Option (Bool) :=
  ((spec_l1In a0.1 (2 : Int) (60 : Int)).bind fun y1 => (cond y1 ((spec_l1In a0.2.1 (w64 (a0.1 + (1 : Int))) (60 : Int)).bind fun y2 => (cond y2 ((spec_l1In a0.2.2.1 (1 : Int) (w64 (a0.1 - (1 : Int)))).bind fun y3 => (cond y3 ((spec_l1In a0.2.2.2.1 (1 : Int) (10 : Int)).bind fun y4 => (some y4)) ((some false)))) ((some false)))) ((some false))))
def spec_l12Rule.res (_ : WindRule) (y : Bool) : AV := (.bl y)
def spec_l12Rule.out (_ : WindRule) (_ : Bool) : List (Option LB) := []
def spec_l12Rule.S (ar : List AV) (h : List (Option LB)) (r : AV) (h1 : List (Option LB)) : Prop := ∃ a0 y, spec_l12Rule a0 = some y ∧ leL ar [(.agg [(.v (.int .i64 a0.1)), (.v (.int .i64 a0.2.1)), (.v (.int .i64 a0.2.2.1)), (.v (.int .i64 a0.2.2.2.1))])] ∧ leH h [] ∧ r = spec_l12Rule.res a0 y ∧ h1 = spec_l12Rule.out a0 y
theorem spec_l12Rule.call {ar : List AV} {h : List (Option LB)} {a0 : WindRule} {y : Bool} (H : spec_l12Rule a0 = some y) (h0 : leLk ar [(.agg [(.v (.int .i64 a0.1)), (.v (.int .i64 a0.2.1)), (.v (.int .i64 a0.2.2.1)), (.v (.int .i64 a0.2.2.2.1))])] (leHk h [])) : spec_l12Rule.S ar h (spec_l12Rule.res a0 y) (spec_l12Rule.out a0 y) := ⟨a0, y, H, (args_ok h0).1, (args_ok h0).2, rfl, rfl⟩
set_option maxHeartbeats 100000000 in
set_option maxRecDepth 100000 in
theorem spec_l12Rule.spec (a0 : WindRule) (y : Bool) (H : spec_l12Rule a0 = some y) : Spec Try.prog 88 [(.agg [(.v (.int .i64 a0.1)), (.v (.int .i64 a0.2.1)), (.v (.int .i64 a0.2.2.1)), (.v (.int .i64 a0.2.2.2.1))])] [] (spec_l12Rule.res a0 y) (spec_l12Rule.out a0 y) := by
  refine spec_intro (G19_ok.at tok []) (ct := []) Try.func88 rfl (by kernel_rfl) (by kernel_rfl) rfl ?_
  repeat' first
    | ((with_reducible refine eqg ?_); exact rfl)
    | ((with_reducible refine KOb.mk ?_); kernel_rfl)
    | ((with_reducible intro h); (repeat (first | replace H := grd_k H | replace H := out_step H (by assumption))); first | replace H := cond_t h H | replace H := cond_f h H | exact absurd h (by decide) | skip)
    | ((with_reducible refine Ob.mk ?_); first | rfl | (repeat (first | exact grd_p H | replace H := grd_k H | replace H := out_step H (by assumption))))
    | (with_reducible exact True.intro)
    | constructor
    | ((conv => whnf); first
        | ((with_reducible refine Ob.mk ?_); first | rfl | (repeat (first | exact grd_p H | replace H := grd_k H | replace H := out_step H (by assumption))))
        | ((with_reducible refine CallW.mk ?_); (repeat (first | replace H := grd_k H | replace H := out_step H (by assumption))); replace H := bind_some H; obtain ⟨y, hy, H⟩ := H; first | ((with_reducible have hz : spec_l1In _ _ _ = some y := hy); clear hz; refine Exists.intro _ (Exists.intro _ ⟨spec_l1In.call hy ?_, rfl, rfl, ?_⟩)))
        | ((with_reducible refine fin_mk ?_); (repeat (first | replace H := grd_k H | replace H := out_step H (by assumption))); have H := Option.some.inj H; subst H))
def G20 : Env := G19.add 88 [] spec_l12Rule.S
theorem G20_ok : EnvOk Try.prog G20 := G19_ok.add ent_88 fun ar h r h1 ⟨a0, y, hy, e1, e2, e3, e4⟩ => by
  subst e3 e4; exact (spec_l12Rule.spec a0 y hy).le e1 e2
attribute [local irreducible] spec_l12Rule

noncomputable def spec_l12State (a0 : WindRule) (a1 : WindState) : Option (Bool) :=
  ((spec_l12Rule (a0.1, a0.2.1, a0.2.2.1, a0.2.2.2.1, ())).bind fun y1 => (cond y1 ((spec_l1In a1.1 (0 : Int) (2 : Int)).bind fun y2 => (cond y2 ((spec_l1In a1.2.1 (0 : Int) (w64 (a0.2.2.2.1 - (1 : Int)))).bind fun y3 => (cond y3 (cond (decide ((0 : Int) < a1.1)) ((some true)) ((some (decide (a1.2.1 = (0 : Int)))))) ((some false)))) ((some false)))) ((some false))))
def spec_l12State.res (_ : WindRule) (_ : WindState) (y : Bool) : AV := (.bl y)
def spec_l12State.out (_ : WindRule) (_ : WindState) (_ : Bool) : List (Option LB) := []
def spec_l12State.S (ar : List AV) (h : List (Option LB)) (r : AV) (h1 : List (Option LB)) : Prop := ∃ a0 a1 y, spec_l12State a0 a1 = some y ∧ leL ar [(.agg [(.v (.int .i64 a0.1)), (.v (.int .i64 a0.2.1)), (.v (.int .i64 a0.2.2.1)), (.v (.int .i64 a0.2.2.2.1))]), (.agg [(.v (.int .i64 a1.1)), (.v (.int .i64 a1.2.1))])] ∧ leH h [] ∧ r = spec_l12State.res a0 a1 y ∧ h1 = spec_l12State.out a0 a1 y
theorem spec_l12State.call {ar : List AV} {h : List (Option LB)} {a0 : WindRule} {a1 : WindState} {y : Bool} (H : spec_l12State a0 a1 = some y) (h0 : leLk ar [(.agg [(.v (.int .i64 a0.1)), (.v (.int .i64 a0.2.1)), (.v (.int .i64 a0.2.2.1)), (.v (.int .i64 a0.2.2.2.1))]), (.agg [(.v (.int .i64 a1.1)), (.v (.int .i64 a1.2.1))])] (leHk h [])) : spec_l12State.S ar h (spec_l12State.res a0 a1 y) (spec_l12State.out a0 a1 y) := ⟨a0, a1, y, H, (args_ok h0).1, (args_ok h0).2, rfl, rfl⟩
set_option maxHeartbeats 100000000 in
set_option maxRecDepth 100000 in
theorem spec_l12State.spec (a0 : WindRule) (a1 : WindState) (y : Bool) (H : spec_l12State a0 a1 = some y) : Spec Try.prog 93 [(.agg [(.v (.int .i64 a0.1)), (.v (.int .i64 a0.2.1)), (.v (.int .i64 a0.2.2.1)), (.v (.int .i64 a0.2.2.2.1))]), (.agg [(.v (.int .i64 a1.1)), (.v (.int .i64 a1.2.1))])] [] (spec_l12State.res a0 a1 y) (spec_l12State.out a0 a1 y) := by
  refine spec_intro (G20_ok.at tok []) (ct := []) Try.func93 rfl (by kernel_rfl) (by kernel_rfl) rfl ?_
  repeat' first
    | ((with_reducible refine eqg ?_); exact rfl)
    | ((with_reducible refine KOb.mk ?_); kernel_rfl)
    | ((with_reducible intro h); (repeat (first | replace H := grd_k H | replace H := out_step H (by assumption))); first | replace H := cond_t h H | replace H := cond_f h H | exact absurd h (by decide) | skip)
    | ((with_reducible refine Ob.mk ?_); first | rfl | (repeat (first | exact grd_p H | replace H := grd_k H | replace H := out_step H (by assumption))))
    | (with_reducible exact True.intro)
    | constructor
    | ((conv => whnf); first
        | ((with_reducible refine Ob.mk ?_); first | rfl | (repeat (first | exact grd_p H | replace H := grd_k H | replace H := out_step H (by assumption))))
        | ((with_reducible refine CallW.mk ?_); (repeat (first | replace H := grd_k H | replace H := out_step H (by assumption))); replace H := bind_some H; obtain ⟨y, hy, H⟩ := H; first | ((with_reducible have hz : spec_l12Rule _ = some y := hy); clear hz; refine Exists.intro _ (Exists.intro _ ⟨spec_l12Rule.call hy ?_, rfl, rfl, ?_⟩)) | ((with_reducible have hz : spec_l1In _ _ _ = some y := hy); clear hz; refine Exists.intro _ (Exists.intro _ ⟨spec_l1In.call hy ?_, rfl, rfl, ?_⟩)))
        | ((with_reducible refine fin_mk ?_); (repeat (first | replace H := grd_k H | replace H := out_step H (by assumption))); have H := Option.some.inj H; subst H))
def G21 : Env := G20.add 93 [] spec_l12State.S
theorem G21_ok : EnvOk Try.prog G21 := G20_ok.add ent_93 fun ar h r h1 ⟨a0, a1, y, hy, e1, e2, e3, e4⟩ => by
  subst e3 e4; exact (spec_l12State.spec a0 a1 y hy).le e1 e2
attribute [local irreducible] spec_l12State

noncomputable def spec_l12Vote (a0 : Int) : Option (Bool) :=
  ((spec_l1In a0 (0 : Int) (60 : Int)).bind fun y1 => (some y1))
def spec_l12Vote.res (_ : Int) (y : Bool) : AV := (.bl y)
def spec_l12Vote.out (_ : Int) (_ : Bool) : List (Option LB) := []
def spec_l12Vote.S (ar : List AV) (h : List (Option LB)) (r : AV) (h1 : List (Option LB)) : Prop := ∃ a0 y, spec_l12Vote a0 = some y ∧ leL ar [(.v (.int .i64 a0))] ∧ leH h [] ∧ r = spec_l12Vote.res a0 y ∧ h1 = spec_l12Vote.out a0 y
theorem spec_l12Vote.call {ar : List AV} {h : List (Option LB)} {a0 : Int} {y : Bool} (H : spec_l12Vote a0 = some y) (h0 : leLk ar [(.v (.int .i64 a0))] (leHk h [])) : spec_l12Vote.S ar h (spec_l12Vote.res a0 y) (spec_l12Vote.out a0 y) := ⟨a0, y, H, (args_ok h0).1, (args_ok h0).2, rfl, rfl⟩
set_option maxHeartbeats 100000000 in
set_option maxRecDepth 100000 in
theorem spec_l12Vote.spec (a0 : Int) (y : Bool) (H : spec_l12Vote a0 = some y) : Spec Try.prog 111 [(.v (.int .i64 a0))] [] (spec_l12Vote.res a0 y) (spec_l12Vote.out a0 y) := by
  refine spec_intro (G21_ok.at tok []) (ct := []) Try.func111 rfl (by kernel_rfl) (by kernel_rfl) rfl ?_
  repeat' first
    | ((with_reducible refine eqg ?_); exact rfl)
    | ((with_reducible refine KOb.mk ?_); kernel_rfl)
    | ((with_reducible intro h); (repeat (first | replace H := grd_k H | replace H := out_step H (by assumption))); first | replace H := cond_t h H | replace H := cond_f h H | exact absurd h (by decide) | skip)
    | ((with_reducible refine Ob.mk ?_); first | rfl | (repeat (first | exact grd_p H | replace H := grd_k H | replace H := out_step H (by assumption))))
    | (with_reducible exact True.intro)
    | constructor
    | ((conv => whnf); first
        | ((with_reducible refine Ob.mk ?_); first | rfl | (repeat (first | exact grd_p H | replace H := grd_k H | replace H := out_step H (by assumption))))
        | ((with_reducible refine CallW.mk ?_); (repeat (first | replace H := grd_k H | replace H := out_step H (by assumption))); replace H := bind_some H; obtain ⟨y, hy, H⟩ := H; first | ((with_reducible have hz : spec_l1In _ _ _ = some y := hy); clear hz; refine Exists.intro _ (Exists.intro _ ⟨spec_l1In.call hy ?_, rfl, rfl, ?_⟩)))
        | ((with_reducible refine fin_mk ?_); (repeat (first | replace H := grd_k H | replace H := out_step H (by assumption))); have H := Option.some.inj H; subst H))
def G22 : Env := G21.add 111 [] spec_l12Vote.S
theorem G22_ok : EnvOk Try.prog G22 := G21_ok.add ent_111 fun ar h r h1 ⟨a0, y, hy, e1, e2, e3, e4⟩ => by
  subst e3 e4; exact (spec_l12Vote.spec a0 y hy).le e1 e2
attribute [local irreducible] spec_l12Vote

noncomputable def spec_l12Votes_loop1 (a0 : (List Int)) (v4 : Int) : Option (Lp (Int) ((Unit) ⊕ (Unit))) :=
  (cond (decide (v4 < (a0.length : Int))) (grd (0 ≤ v4 ∧ v4 < (a0.length : Int)) ((spec_l12Vote (a0.getD v4.toNat 0)).bind fun y5 => (cond (!y5) ((some (.out (Sum.inl ())))) (some (.go (w64 (v4 + (1 : Int)))))))) ((some (.out (Sum.inr ())))))
noncomputable def spec_l12Votes (a0 : (List Int)) : Option (Bool) :=
  ((iter (fun s => spec_l12Votes_loop1 a0 s) (0 : Int)).bind (Sum.elim (fun r7 => (some false)) (fun r8 => (some (decide ((a0.length : Int) ≤ (50 : Int)))))))
def spec_l12Votes.res (_ : (List Int)) (y : Bool) : AV := (.bl y)
def spec_l12Votes.out (_ : (List Int)) (_ : Bool) : List (Option LB) := []
def spec_l12Votes.S (ar : List AV) (h : List (Option LB)) (r : AV) (h1 : List (Option LB)) : Prop := ∃ a0 y, spec_l12Votes a0 = some y ∧ leL ar [(.tree (.int .i64) a0)] ∧ leH h [] ∧ r = spec_l12Votes.res a0 y ∧ h1 = spec_l12Votes.out a0 y
theorem spec_l12Votes.call {ar : List AV} {h : List (Option LB)} {a0 : (List Int)} {y : Bool} (H : spec_l12Votes a0 = some y) (h0 : leLk ar [(.tree (.int .i64) a0)] (leHk h [])) : spec_l12Votes.S ar h (spec_l12Votes.res a0 y) (spec_l12Votes.out a0 y) := ⟨a0, y, H, (args_ok h0).1, (args_ok h0).2, rfl, rfl⟩
set_option maxHeartbeats 100000000 in
set_option maxRecDepth 100000 in
theorem spec_l12Votes.spec (a0 : (List Int)) (y : Bool) (H : spec_l12Votes a0 = some y) : Spec Try.prog 89 [(.tree (.int .i64) a0)] [] (spec_l12Votes.res a0 y) (spec_l12Votes.out a0 y) := by
  refine spec_intro (G22_ok.at tok []) (ct := []) Try.func89 rfl (by kernel_rfl) (by kernel_rfl) rfl ?_
  repeat' first
    | ((with_reducible refine eqg ?_); exact rfl)
    | ((with_reducible refine KOb.mk ?_); kernel_rfl)
    | ((with_reducible intro h); (repeat (first | replace H := grd_k H | replace H := out_step H (by assumption))); first | replace H := cond_t h H | replace H := cond_f h H | exact absurd h (by decide) | skip)
    | ((with_reducible refine Ob.mk ?_); first | rfl | (repeat (first | exact grd_p H | replace H := grd_k H | replace H := out_step H (by assumption))))
    | (with_reducible exact True.intro)
    | constructor
    | ((conv => whnf); first
        | ((with_reducible refine Ob.mk ?_); first | rfl | (repeat (first | exact grd_p H | replace H := grd_k H | replace H := out_step H (by assumption))))
        | ((with_reducible refine CallW.mk ?_); (repeat (first | replace H := grd_k H | replace H := out_step H (by assumption))); replace H := bind_some H; obtain ⟨y, hy, H⟩ := H; first | ((with_reducible have hz : spec_l12Vote _ = some y := hy); clear hz; refine Exists.intro _ (Exists.intro _ ⟨spec_l12Vote.call hy ?_, rfl, rfl, ?_⟩)))
        | ((repeat (first | replace H := grd_k H | replace H := out_step H (by assumption))); refine loop_iter (G22_ok.at tok []) (ct := []) (F := (fun s1 : Int => ⟨sl [(0, (.tree (.int .i64) a0)), (3, (.v (.int .i64 s1)))], []⟩)) (step := (fun s : Int => spec_l12Votes_loop1 _ s)) _ H (by kernel_rfl) (sub_auto ?_) ?_; rotate_left; (intro s1 r v hr H); rotate_right)
        | ((repeat (first | replace H := grd_k H | replace H := out_step H (by assumption))); refine again_step H (by assumption) (sub_auto ?_))
        | ((with_reducible refine fin_mk ?_); (repeat (first | replace H := grd_k H | replace H := out_step H (by assumption))); have H := Option.some.inj H; subst H))
def G23 : Env := G22.add 89 [] spec_l12Votes.S
theorem G23_ok : EnvOk Try.prog G23 := G22_ok.add ent_89 fun ar h r h1 ⟨a0, y, hy, e1, e2, e3, e4⟩ => by
  subst e3 e4; exact (spec_l12Votes.spec a0 y hy).le e1 e2
attribute [local irreducible] spec_l12Votes

noncomputable def spec_l12Next (a0 : WindRule) (a1 : WindState) (a2 : Int) : Option (WindState) :=
  ((cond (decide (a1.1 = (2 : Int))) ((some a0.2.1)) ((some a0.1))).bind fun z1 => (cond (decide (a0.2.1 ≤ a2)) ((some ((2 : Int), (0 : Int), ()))) ((cond (decide (a1.1 = (0 : Int))) ((some (z1, (decide (a0.1 ≤ a2))))) ((some (z1, false)))).bind fun z2 => (cond z2.2 ((some ((1 : Int), (0 : Int), ()))) (cond (decide (a1.1 = (0 : Int))) ((some (a1.1, (0 : Int), ()))) (cond (decide ((w64 (z2.1 - a0.2.2.1)) ≤ a2)) ((some (a1.1, (0 : Int), ()))) (cond (decide ((w64 (a1.2.1 + (1 : Int))) = a0.2.2.2.1)) ((some ((w64 (a1.1 - (1 : Int))), (0 : Int), ()))) ((some (a1.1, (w64 (a1.2.1 + (1 : Int))), ()))))))))))
def spec_l12Next.res (_ : WindRule) (_ : WindState) (_ : Int) (y : WindState) : AV := (.agg [(.v (.int .i64 y.1)), (.v (.int .i64 y.2.1))])
def spec_l12Next.out (_ : WindRule) (_ : WindState) (_ : Int) (_ : WindState) : List (Option LB) := []
def spec_l12Next.S (ar : List AV) (h : List (Option LB)) (r : AV) (h1 : List (Option LB)) : Prop := ∃ a0 a1 a2 y, spec_l12Next a0 a1 a2 = some y ∧ leL ar [(.agg [(.v (.int .i64 a0.1)), (.v (.int .i64 a0.2.1)), (.v (.int .i64 a0.2.2.1)), (.v (.int .i64 a0.2.2.2.1))]), (.agg [(.v (.int .i64 a1.1)), (.v (.int .i64 a1.2.1))]), (.v (.int .i64 a2))] ∧ leH h [] ∧ r = spec_l12Next.res a0 a1 a2 y ∧ h1 = spec_l12Next.out a0 a1 a2 y
theorem spec_l12Next.call {ar : List AV} {h : List (Option LB)} {a0 : WindRule} {a1 : WindState} {a2 : Int} {y : WindState} (H : spec_l12Next a0 a1 a2 = some y) (h0 : leLk ar [(.agg [(.v (.int .i64 a0.1)), (.v (.int .i64 a0.2.1)), (.v (.int .i64 a0.2.2.1)), (.v (.int .i64 a0.2.2.2.1))]), (.agg [(.v (.int .i64 a1.1)), (.v (.int .i64 a1.2.1))]), (.v (.int .i64 a2))] (leHk h [])) : spec_l12Next.S ar h (spec_l12Next.res a0 a1 a2 y) (spec_l12Next.out a0 a1 a2 y) := ⟨a0, a1, a2, y, H, (args_ok h0).1, (args_ok h0).2, rfl, rfl⟩
set_option maxHeartbeats 100000000 in
set_option maxRecDepth 100000 in
theorem spec_l12Next.spec (a0 : WindRule) (a1 : WindState) (a2 : Int) (y : WindState) (H : spec_l12Next a0 a1 a2 = some y) : Spec Try.prog 112 [(.agg [(.v (.int .i64 a0.1)), (.v (.int .i64 a0.2.1)), (.v (.int .i64 a0.2.2.1)), (.v (.int .i64 a0.2.2.2.1))]), (.agg [(.v (.int .i64 a1.1)), (.v (.int .i64 a1.2.1))]), (.v (.int .i64 a2))] [] (spec_l12Next.res a0 a1 a2 y) (spec_l12Next.out a0 a1 a2 y) := by
  refine spec_intro (G23_ok.at tok []) (ct := [(4, none), (7, none), (11, some [4, 6, 47]), (12, some [4, 6])]) Try.func112 rfl (by kernel_rfl) (by kernel_rfl) rfl ?_
  repeat' first
    | ((with_reducible refine eqg ?_); exact rfl)
    | ((with_reducible refine KOb.mk ?_); kernel_rfl)
    | ((with_reducible intro h); (repeat (first | replace H := grd_k H | replace H := out_step H (by assumption))); first | replace H := cond_t h H | replace H := cond_f h H | exact absurd h (by decide) | skip)
    | ((with_reducible refine Ob.mk ?_); first | rfl | (repeat (first | exact grd_p H | replace H := grd_k H | replace H := out_step H (by assumption))))
    | (with_reducible exact True.intro)
    | constructor
    | ((conv => whnf); first
        | ((with_reducible refine Ob.mk ?_); first | rfl | (repeat (first | exact grd_p H | replace H := grd_k H | replace H := out_step H (by assumption))))
        | ((with_reducible refine cutAt (id := 4) ?_); (repeat (first | replace H := grd_k H | replace H := out_step H (by assumption))); first | (replace H := bind_some H; obtain ⟨z, hz, H⟩ := H; refine CutC.mk (id := 4) ⟨sl [(2, (.v (.int .i64 a2))), (3, (.loc 0 0 0)), (4, (.loc 1 0 0)), (6, (.loc 2 0 0)), (7, (.v (.int .i64 z)))], [some (.box 27 [(.v (.int .i64 a0.1)), (.v (.int .i64 a0.2.1)), (.v (.int .i64 a0.2.2.1)), (.v (.int .i64 a0.2.2.2.1))]), some (.box 36 [(.v (.int .i64 a1.1)), (.v (.int .i64 a1.2.1))]), some (.box 36 [(.v (.int .i64 (0 : Int))), (.v (.int .i64 (0 : Int)))])]⟩ ?_ ?_; (replace H := hz)))
        | ((with_reducible refine cutAt (id := 7) ?_); (repeat (first | replace H := grd_k H | replace H := out_step H (by assumption))); first | (replace H := bind_some H; obtain ⟨z, hz, H⟩ := H; refine CutC.mk (id := 7) ⟨sl [(2, (.v (.int .i64 a2))), (3, (.loc 0 0 0)), (4, (.loc 1 0 0)), (6, (.loc 2 0 0)), (7, (.v (.int .i64 z.1))), (21, (.bl z.2))], [some (.box 27 [(.v (.int .i64 a0.1)), (.v (.int .i64 a0.2.1)), (.v (.int .i64 a0.2.2.1)), (.v (.int .i64 a0.2.2.2.1))]), some (.box 36 [(.v (.int .i64 a1.1)), (.v (.int .i64 a1.2.1))]), some (.box 36 [(.v (.int .i64 (0 : Int))), (.v (.int .i64 (0 : Int)))])]⟩ ?_ ?_; (replace H := hz)))
        | ((repeat (first | replace H := grd_k H | replace H := out_step H (by assumption))); have H := Option.some.inj H; subst H; with_reducible refine sub_auto ?_)
        | ((with_reducible refine fin_mk ?_); (repeat (first | replace H := grd_k H | replace H := out_step H (by assumption))); have H := Option.some.inj H; subst H))
def G24 : Env := G23.add 112 [] spec_l12Next.S
theorem G24_ok : EnvOk Try.prog G24 := G23_ok.add ent_112 fun ar h r h1 ⟨a0, a1, a2, y, hy, e1, e2, e3, e4⟩ => by
  subst e3 e4; exact (spec_l12Next.spec a0 a1 a2 y hy).le e1 e2
attribute [local irreducible] spec_l12Next

end Go.Proofs.Ytplknllbpdookaa
