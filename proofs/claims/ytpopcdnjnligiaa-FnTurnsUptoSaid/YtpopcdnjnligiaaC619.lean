/-
  Contracts, printed by a program.
-/
import Derived.Test.YtpopcdnjnligiaaC618
namespace Go.Proofs.Ytpopcdnjnligiaa
open Go.RowKit
attribute [local irreducible] Ob loopwp Sub Spec Fin Again CallW CutC KOb iter joinx outm

attribute [local irreducible] laws_vBig spec_l1Cur_next spec_l1Cur_pick spec_l1Cur_among spec_l1In spec_l25Slot spec_l25Good spec_NewRopeway spec_l25Open spec_l1Cur_one spec_l1Cur_ropeStep spec_l25Step spec_l25Own spec_l25Find spec_l25Rope spec_l25Station spec_l25People spec_l25Make spec_StepRopeway spec_l1Cur_ropeStep_i1 spec_l1Cur_ropeway spec_DrawTurnsTo impl_within impl_Ropeway_isStation impl_IsRopeway_1_i1 slices_IndexFunc___impl_Slot_impl_Slot__i1 slices_ContainsFunc___impl_Slot_impl_Slot__i1 impl_IsRopeway impl_Ropeway_cabinAt_1_i1 slices_IndexFunc___impl_Slot_impl_Slot__i2 impl_Ropeway_cabinAt impl_CabinAt impl_TurnsTo spec_CabinAt spec_TurnsTo slices_Clone___impl_Slot_impl_Slot_ impl_copyRopeway impl_Ropeway_act_1 slices_Grow___impl_Slot_impl_Slot__i1 slices_Concat___impl_Slot_impl_Slot_ impl_Ropeway_stationOf slices_IndexFunc___impl_Slot_impl_Slot__i3 slices_ContainsFunc___impl_Slot_impl_Slot__i2 impl_Ropeway_act impl_Ropeway_step impl_StepRopeway spec_DrawIsRopeway spec_DrawIsCleared

noncomputable def impl_Ropeway_peopleOn_loop1 (a0 : Ropeway) (v6 : Int) (v7 : Int) (v8 : Int) : Option (Lp (Int × Int × Int) ((Int × Int))) :=
  (cond (decide (v8 < (a0.2.1.length : Int))) (grd (0 ≤ v8 ∧ v8 < (a0.2.1.length : Int)) ((impl_Ropeway_isStation (a0.1, a0.2.1, a0.2.2.1, a0.2.2.2.1, a0.2.2.2.2.1, ()) v8).bind fun y9 => (cond (!y9) (some (.go ((w64 (v6 + ((a0.2.1.getD v8.toNat d_Slot).2.2.1))), (w64 (v7 + ((a0.2.1.getD v8.toNat d_Slot).2.2.1))), (w64 (v8 + (1 : Int)))))) (some (.go ((w64 (v6 + ((a0.2.1.getD v8.toNat d_Slot).2.2.1))), v7, (w64 (v8 + (1 : Int))))))))) ((some (.out (v6, v7)))))
noncomputable def impl_Ropeway_peopleOn (a0 : Ropeway) : Option (Int × Int) :=
  ((iter (fun s => impl_Ropeway_peopleOn_loop1 a0 s.1 s.2.1 s.2.2) ((0 : Int), (0 : Int), (0 : Int))).bind (fun r10 => (some (r10.1, r10.2))))
def impl_Ropeway_peopleOn.res (_ : Ropeway) (y : Int × Int) : AV := (.tup [(.v (.int .i64 y.1)), (.v (.int .i64 y.2))])
def impl_Ropeway_peopleOn.out (_ : Ropeway) (_ : Int × Int) : List (Option LB) := []
def impl_Ropeway_peopleOn.S (ar : List AV) (h : List (Option LB)) (r : AV) (h1 : List (Option LB)) : Prop := ∃ a0 y, impl_Ropeway_peopleOn a0 = some y ∧ leL ar [(.agg [(.v (.int .i64 a0.1)), (.tree ty_Slot a0.2.1), (.v (.int .i64 a0.2.2.1)), (.v (.int .i64 a0.2.2.2.1)), (.v (.int .i64 a0.2.2.2.2.1))])] ∧ leH h [] ∧ r = impl_Ropeway_peopleOn.res a0 y ∧ h1 = impl_Ropeway_peopleOn.out a0 y
theorem impl_Ropeway_peopleOn.call {ar : List AV} {h : List (Option LB)} {a0 : Ropeway} {y : Int × Int} (H : impl_Ropeway_peopleOn a0 = some y) (h0 : leLk ar [(.agg [(.v (.int .i64 a0.1)), (.tree ty_Slot a0.2.1), (.v (.int .i64 a0.2.2.1)), (.v (.int .i64 a0.2.2.2.1)), (.v (.int .i64 a0.2.2.2.2.1))])] (leHk h [])) : impl_Ropeway_peopleOn.S ar h (impl_Ropeway_peopleOn.res a0 y) (impl_Ropeway_peopleOn.out a0 y) := ⟨a0, y, H, (args_ok h0).1, (args_ok h0).2, rfl, rfl⟩
set_option maxHeartbeats 100000000 in
set_option maxRecDepth 100000 in
theorem impl_Ropeway_peopleOn.spec (a0 : Ropeway) (y : Int × Int) (H : impl_Ropeway_peopleOn a0 = some y) : Spec Try.prog 97 [(.agg [(.v (.int .i64 a0.1)), (.tree ty_Slot a0.2.1), (.v (.int .i64 a0.2.2.1)), (.v (.int .i64 a0.2.2.2.1)), (.v (.int .i64 a0.2.2.2.2.1))])] [] (impl_Ropeway_peopleOn.res a0 y) (impl_Ropeway_peopleOn.out a0 y) := by
  refine spec_intro (G48_ok.at tok []) (ct := [(7, some [1, 4, 5, 7, 9, 10, 11, 23])]) Try.func97 rfl (by kernel_rfl) (by kernel_rfl) rfl ?_
  repeat' first
    | ((with_reducible refine eqg ?_); exact rfl)
    | ((with_reducible refine KOb.mk ?_); kernel_rfl)
    | ((with_reducible intro h); (repeat (first | replace H := grd_k H | replace H := out_step H (by assumption))); first | replace H := cond_t h H | replace H := cond_f h H | exact absurd h (by decide) | skip)
    | ((with_reducible refine Ob.mk ?_); first | (with_reducible rfl) | (first | ((repeat (first | (with_reducible exact grd_p H) | (replace H := grd_k H) | (replace H := out_step H (by assumption)))); done) | rfl | ((repeat (first | exact grd_p H | replace H := grd_k H | replace H := out_step H (by assumption))); done) | ((repeat (first | exact grd_p H | (have hp := grd_p H; exact hp) | replace H := grd_k H | replace H := out_step H (by assumption) | (replace H := bind_some H; obtain ⟨_, _, H⟩ := H))); done) | (repeat (first | exact grd_p H | replace H := grd_k H | replace H := out_step H (by assumption)))))
    | (with_reducible exact True.intro)
    | ((conv => whnf); first
        | (with_reducible refine And.intro ?_ ?_)
        | (with_reducible exact True.intro)
        | ((with_reducible refine Ob.mk ?_); first | (with_reducible rfl) | (first | ((repeat (first | (with_reducible exact grd_p H) | (replace H := grd_k H) | (replace H := out_step H (by assumption)))); done) | rfl | ((repeat (first | exact grd_p H | replace H := grd_k H | replace H := out_step H (by assumption))); done) | ((repeat (first | exact grd_p H | (have hp := grd_p H; exact hp) | replace H := grd_k H | replace H := out_step H (by assumption) | (replace H := bind_some H; obtain ⟨_, _, H⟩ := H))); done) | (repeat (first | exact grd_p H | replace H := grd_k H | replace H := out_step H (by assumption)))))
        | ((with_reducible refine CallW.mk ?_); (repeat (first | replace H := grd_k H | replace H := out_step H (by assumption))); replace H := bind_some H; obtain ⟨y, hy, H⟩ := H; first | ((with_reducible have hz : impl_Ropeway_isStation _ _ = some y := hy); clear hz; refine Exists.intro _ (Exists.intro _ ⟨impl_Ropeway_isStation.call hy ?_, rfl, rfl, ?_⟩)))
        | ((repeat (first | replace H := grd_k H | replace H := out_step H (by assumption))); refine loop_iter (G48_ok.at tok []) (ct := [(7, some [1, 4, 5, 7, 9, 10, 11, 23])]) (F := (fun s1 : Int × Int × Int => ⟨sl [(1, (.loc 0 0 0)), (4, (.v (.int .i64 s1.1))), (5, (.v (.int .i64 s1.2.1))), (9, (.tree ty_Slot a0.2.1)), (10, (.v (.int .i64 (a0.2.1.length : Int)))), (11, (.v (.int .i64 s1.2.2)))], [some (.box 26 [(.v (.int .i64 a0.1)), (.tree ty_Slot a0.2.1), (.v (.int .i64 a0.2.2.1)), (.v (.int .i64 a0.2.2.2.1)), (.v (.int .i64 a0.2.2.2.2.1))])]⟩)) (step := (fun s : Int × Int × Int => impl_Ropeway_peopleOn_loop1 _ s.1 s.2.1 s.2.2)) _ H (by kernel_rfl) (sub_auto ?_) ?_; rotate_left; (intro s1 r v hr H); rotate_right)
        | ((repeat (first | replace H := grd_k H | replace H := out_step H (by assumption))); refine again_step H (by assumption) (sub_auto ?_))
        | ((with_reducible refine fin_mk ?_); (repeat (first | replace H := grd_k H | replace H := out_step H (by assumption))); have H := Option.some.inj H; subst H))
    | constructor
def G49 : Env := G48.add 97 [] impl_Ropeway_peopleOn.S
theorem G49_ok : EnvOk Try.prog G49 := G48_ok.add ent_97 fun ar h r h1 ⟨a0, y, hy, e1, e2, e3, e4⟩ => by
  subst e3 e4; exact (impl_Ropeway_peopleOn.spec a0 y hy).le e1 e2
attribute [local irreducible] impl_Ropeway_peopleOn

noncomputable def impl_IsCleared (a0 : Ropeway) : Option (Bool × Bool) :=
  ((impl_IsRopeway (a0.1, a0.2.1, a0.2.2.1, a0.2.2.2.1, a0.2.2.2.2.1, ())).bind fun y1 => (cond (!y1) ((some (false, false))) ((impl_Ropeway_peopleOn (a0.1, a0.2.1, a0.2.2.1, a0.2.2.2.1, a0.2.2.2.2.1, ())).bind fun y2 => (cond (decide (y2.1 = (0 : Int))) ((some ((decide (a0.2.2.2.1 = (0 : Int))), true))) ((some (false, true)))))))
def impl_IsCleared.res (_ : Ropeway) (y : Bool × Bool) : AV := (.tup [(.bl y.1), (.bl y.2)])
def impl_IsCleared.out (_ : Ropeway) (_ : Bool × Bool) : List (Option LB) := []
def impl_IsCleared.S (ar : List AV) (h : List (Option LB)) (r : AV) (h1 : List (Option LB)) : Prop := ∃ a0 y, impl_IsCleared a0 = some y ∧ leL ar [(.agg [(.v (.int .i64 a0.1)), (.tree ty_Slot a0.2.1), (.v (.int .i64 a0.2.2.1)), (.v (.int .i64 a0.2.2.2.1)), (.v (.int .i64 a0.2.2.2.2.1))])] ∧ leH h [] ∧ r = impl_IsCleared.res a0 y ∧ h1 = impl_IsCleared.out a0 y
theorem impl_IsCleared.call {ar : List AV} {h : List (Option LB)} {a0 : Ropeway} {y : Bool × Bool} (H : impl_IsCleared a0 = some y) (h0 : leLk ar [(.agg [(.v (.int .i64 a0.1)), (.tree ty_Slot a0.2.1), (.v (.int .i64 a0.2.2.1)), (.v (.int .i64 a0.2.2.2.1)), (.v (.int .i64 a0.2.2.2.2.1))])] (leHk h [])) : impl_IsCleared.S ar h (impl_IsCleared.res a0 y) (impl_IsCleared.out a0 y) := ⟨a0, y, H, (args_ok h0).1, (args_ok h0).2, rfl, rfl⟩
set_option maxHeartbeats 100000000 in
set_option maxRecDepth 100000 in
theorem impl_IsCleared.spec (a0 : Ropeway) (y : Bool × Bool) (H : impl_IsCleared a0 = some y) : Spec Try.prog 30 [(.agg [(.v (.int .i64 a0.1)), (.tree ty_Slot a0.2.1), (.v (.int .i64 a0.2.2.1)), (.v (.int .i64 a0.2.2.2.1)), (.v (.int .i64 a0.2.2.2.2.1))])] [] (impl_IsCleared.res a0 y) (impl_IsCleared.out a0 y) := by
  refine spec_intro (G49_ok.at tok []) (ct := [(4, some [1, 4, 17, 18, 19])]) Try.func30 rfl (by kernel_rfl) (by kernel_rfl) rfl ?_
  repeat' first
    | ((with_reducible refine eqg ?_); exact rfl)
    | ((with_reducible refine KOb.mk ?_); kernel_rfl)
    | ((with_reducible intro h); (repeat (first | replace H := grd_k H | replace H := out_step H (by assumption))); first | replace H := cond_t h H | replace H := cond_f h H | exact absurd h (by decide) | skip)
    | ((with_reducible refine Ob.mk ?_); first | (with_reducible rfl) | (first | ((repeat (first | (with_reducible exact grd_p H) | (replace H := grd_k H) | (replace H := out_step H (by assumption)))); done) | rfl | ((repeat (first | exact grd_p H | replace H := grd_k H | replace H := out_step H (by assumption))); done) | ((repeat (first | exact grd_p H | (have hp := grd_p H; exact hp) | replace H := grd_k H | replace H := out_step H (by assumption) | (replace H := bind_some H; obtain ⟨_, _, H⟩ := H))); done) | (repeat (first | exact grd_p H | replace H := grd_k H | replace H := out_step H (by assumption)))))
    | (with_reducible exact True.intro)
    | ((conv => whnf); first
        | (with_reducible refine And.intro ?_ ?_)
        | (with_reducible exact True.intro)
        | ((with_reducible refine Ob.mk ?_); first | (with_reducible rfl) | (first | ((repeat (first | (with_reducible exact grd_p H) | (replace H := grd_k H) | (replace H := out_step H (by assumption)))); done) | rfl | ((repeat (first | exact grd_p H | replace H := grd_k H | replace H := out_step H (by assumption))); done) | ((repeat (first | exact grd_p H | (have hp := grd_p H; exact hp) | replace H := grd_k H | replace H := out_step H (by assumption) | (replace H := bind_some H; obtain ⟨_, _, H⟩ := H))); done) | (repeat (first | exact grd_p H | replace H := grd_k H | replace H := out_step H (by assumption)))))
        | ((with_reducible refine CallW.mk ?_); (repeat (first | replace H := grd_k H | replace H := out_step H (by assumption))); replace H := bind_some H; obtain ⟨y, hy, H⟩ := H; first | ((with_reducible have hz : impl_IsRopeway _ = some y := hy); clear hz; refine Exists.intro _ (Exists.intro _ ⟨impl_IsRopeway.call hy ?_, rfl, rfl, ?_⟩)) | ((with_reducible have hz : impl_Ropeway_peopleOn _ = some y := hy); clear hz; refine Exists.intro _ (Exists.intro _ ⟨impl_Ropeway_peopleOn.call hy ?_, rfl, rfl, ?_⟩)))
        | ((with_reducible refine fin_mk ?_); (repeat (first | replace H := grd_k H | replace H := out_step H (by assumption))); have H := Option.some.inj H; subst H))
    | constructor
def G50 : Env := G49.add 30 [] impl_IsCleared.S
theorem G50_ok : EnvOk Try.prog G50 := G49_ok.add ent_30 fun ar h r h1 ⟨a0, y, hy, e1, e2, e3, e4⟩ => by
  subst e3 e4; exact (impl_IsCleared.spec a0 y hy).le e1 e2
attribute [local irreducible] impl_IsCleared

noncomputable def impl_PeopleOn (a0 : Ropeway) : Option (Int × Int × Bool) :=
  ((impl_IsRopeway (a0.1, a0.2.1, a0.2.2.1, a0.2.2.2.1, a0.2.2.2.2.1, ())).bind fun y1 => (cond (!y1) ((some ((0 : Int), (0 : Int), false))) ((impl_Ropeway_peopleOn (a0.1, a0.2.1, a0.2.2.1, a0.2.2.2.1, a0.2.2.2.2.1, ())).bind fun y2 => (some (y2.1, y2.2, true)))))
def impl_PeopleOn.res (_ : Ropeway) (y : Int × Int × Bool) : AV := (.tup [(.v (.int .i64 y.1)), (.v (.int .i64 y.2.1)), (.bl y.2.2)])
def impl_PeopleOn.out (_ : Ropeway) (_ : Int × Int × Bool) : List (Option LB) := []
def impl_PeopleOn.S (ar : List AV) (h : List (Option LB)) (r : AV) (h1 : List (Option LB)) : Prop := ∃ a0 y, impl_PeopleOn a0 = some y ∧ leL ar [(.agg [(.v (.int .i64 a0.1)), (.tree ty_Slot a0.2.1), (.v (.int .i64 a0.2.2.1)), (.v (.int .i64 a0.2.2.2.1)), (.v (.int .i64 a0.2.2.2.2.1))])] ∧ leH h [] ∧ r = impl_PeopleOn.res a0 y ∧ h1 = impl_PeopleOn.out a0 y
theorem impl_PeopleOn.call {ar : List AV} {h : List (Option LB)} {a0 : Ropeway} {y : Int × Int × Bool} (H : impl_PeopleOn a0 = some y) (h0 : leLk ar [(.agg [(.v (.int .i64 a0.1)), (.tree ty_Slot a0.2.1), (.v (.int .i64 a0.2.2.1)), (.v (.int .i64 a0.2.2.2.1)), (.v (.int .i64 a0.2.2.2.2.1))])] (leHk h [])) : impl_PeopleOn.S ar h (impl_PeopleOn.res a0 y) (impl_PeopleOn.out a0 y) := ⟨a0, y, H, (args_ok h0).1, (args_ok h0).2, rfl, rfl⟩
set_option maxHeartbeats 100000000 in
set_option maxRecDepth 100000 in
theorem impl_PeopleOn.spec (a0 : Ropeway) (y : Int × Int × Bool) (H : impl_PeopleOn a0 = some y) : Spec Try.prog 17 [(.agg [(.v (.int .i64 a0.1)), (.tree ty_Slot a0.2.1), (.v (.int .i64 a0.2.2.1)), (.v (.int .i64 a0.2.2.2.1)), (.v (.int .i64 a0.2.2.2.2.1))])] [] (impl_PeopleOn.res a0 y) (impl_PeopleOn.out a0 y) := by
  refine spec_intro (G50_ok.at tok []) (ct := [(4, some [5, 6])]) Try.func17 rfl (by kernel_rfl) (by kernel_rfl) rfl ?_
  repeat' first
    | ((with_reducible refine eqg ?_); exact rfl)
    | ((with_reducible refine KOb.mk ?_); kernel_rfl)
    | ((with_reducible intro h); (repeat (first | replace H := grd_k H | replace H := out_step H (by assumption))); first | replace H := cond_t h H | replace H := cond_f h H | exact absurd h (by decide) | skip)
    | ((with_reducible refine Ob.mk ?_); first | (with_reducible rfl) | (first | ((repeat (first | (with_reducible exact grd_p H) | (replace H := grd_k H) | (replace H := out_step H (by assumption)))); done) | rfl | ((repeat (first | exact grd_p H | replace H := grd_k H | replace H := out_step H (by assumption))); done) | ((repeat (first | exact grd_p H | (have hp := grd_p H; exact hp) | replace H := grd_k H | replace H := out_step H (by assumption) | (replace H := bind_some H; obtain ⟨_, _, H⟩ := H))); done) | (repeat (first | exact grd_p H | replace H := grd_k H | replace H := out_step H (by assumption)))))
    | (with_reducible exact True.intro)
    | ((conv => whnf); first
        | (with_reducible refine And.intro ?_ ?_)
        | (with_reducible exact True.intro)
        | ((with_reducible refine Ob.mk ?_); first | (with_reducible rfl) | (first | ((repeat (first | (with_reducible exact grd_p H) | (replace H := grd_k H) | (replace H := out_step H (by assumption)))); done) | rfl | ((repeat (first | exact grd_p H | replace H := grd_k H | replace H := out_step H (by assumption))); done) | ((repeat (first | exact grd_p H | (have hp := grd_p H; exact hp) | replace H := grd_k H | replace H := out_step H (by assumption) | (replace H := bind_some H; obtain ⟨_, _, H⟩ := H))); done) | (repeat (first | exact grd_p H | replace H := grd_k H | replace H := out_step H (by assumption)))))
        | ((with_reducible refine CallW.mk ?_); (repeat (first | replace H := grd_k H | replace H := out_step H (by assumption))); replace H := bind_some H; obtain ⟨y, hy, H⟩ := H; first | ((with_reducible have hz : impl_IsRopeway _ = some y := hy); clear hz; refine Exists.intro _ (Exists.intro _ ⟨impl_IsRopeway.call hy ?_, rfl, rfl, ?_⟩)) | ((with_reducible have hz : impl_Ropeway_peopleOn _ = some y := hy); clear hz; refine Exists.intro _ (Exists.intro _ ⟨impl_Ropeway_peopleOn.call hy ?_, rfl, rfl, ?_⟩)))
        | ((with_reducible refine fin_mk ?_); (repeat (first | replace H := grd_k H | replace H := out_step H (by assumption))); have H := Option.some.inj H; subst H))
    | constructor
def G51 : Env := G50.add 17 [] impl_PeopleOn.S
theorem G51_ok : EnvOk Try.prog G51 := G50_ok.add ent_17 fun ar h r h1 ⟨a0, y, hy, e1, e2, e3, e4⟩ => by
  subst e3 e4; exact (impl_PeopleOn.spec a0 y hy).le e1 e2
attribute [local irreducible] impl_PeopleOn

noncomputable def spec_l25Sum_loop1 (a0 : Ropeway) (v4 : Int) (v5 : Int) (v6 : Int) : Option (Lp (Int × Int × Int) ((Int × Int))) :=
  (cond (decide (v6 < (a0.2.1.length : Int))) (grd (0 ≤ v6 ∧ v6 < (a0.2.1.length : Int)) (cond (!decide (v6 = (0 : Int))) (grd ((2 : Int) ≠ 0) (cond (!decide (v6 = (w64 (Int.tdiv (a0.2.1.length : Int) (2 : Int))))) (grd (0 ≤ v6 ∧ v6 < (a0.2.1.length : Int)) (some (.go ((w64 (v4 + ((a0.2.1.getD v6.toNat d_Slot).2.2.1))), (w64 (v5 + ((a0.2.1.getD v6.toNat d_Slot).2.2.1))), (w64 (v6 + (1 : Int))))))) (some (.go ((w64 (v4 + ((a0.2.1.getD v6.toNat d_Slot).2.2.1))), v5, (w64 (v6 + (1 : Int)))))))) (some (.go ((w64 (v4 + ((a0.2.1.getD v6.toNat d_Slot).2.2.1))), v5, (w64 (v6 + (1 : Int)))))))) ((some (.out (v4, v5)))))
noncomputable def spec_l25Sum (a0 : Ropeway) : Option (Int × Int) :=
  ((iter (fun s => spec_l25Sum_loop1 a0 s.1 s.2.1 s.2.2) ((0 : Int), (0 : Int), (0 : Int))).bind (fun r7 => (some (r7.1, r7.2))))
def spec_l25Sum.res (_ : Ropeway) (y : Int × Int) : AV := (.tup [(.v (.int .i64 y.1)), (.v (.int .i64 y.2))])
def spec_l25Sum.out (_ : Ropeway) (_ : Int × Int) : List (Option LB) := []
def spec_l25Sum.S (ar : List AV) (h : List (Option LB)) (r : AV) (h1 : List (Option LB)) : Prop := ∃ a0 y, spec_l25Sum a0 = some y ∧ leL ar [(.agg [(.v (.int .i64 a0.1)), (.tree ty_Slot a0.2.1), (.v (.int .i64 a0.2.2.1)), (.v (.int .i64 a0.2.2.2.1)), (.v (.int .i64 a0.2.2.2.2.1))])] ∧ leH h [] ∧ r = spec_l25Sum.res a0 y ∧ h1 = spec_l25Sum.out a0 y
theorem spec_l25Sum.call {ar : List AV} {h : List (Option LB)} {a0 : Ropeway} {y : Int × Int} (H : spec_l25Sum a0 = some y) (h0 : leLk ar [(.agg [(.v (.int .i64 a0.1)), (.tree ty_Slot a0.2.1), (.v (.int .i64 a0.2.2.1)), (.v (.int .i64 a0.2.2.2.1)), (.v (.int .i64 a0.2.2.2.2.1))])] (leHk h [])) : spec_l25Sum.S ar h (spec_l25Sum.res a0 y) (spec_l25Sum.out a0 y) := ⟨a0, y, H, (args_ok h0).1, (args_ok h0).2, rfl, rfl⟩
set_option maxHeartbeats 100000000 in
set_option maxRecDepth 100000 in
theorem spec_l25Sum.spec (a0 : Ropeway) (y : Int × Int) (H : spec_l25Sum a0 = some y) : Spec Try.prog 106 [(.agg [(.v (.int .i64 a0.1)), (.tree ty_Slot a0.2.1), (.v (.int .i64 a0.2.2.1)), (.v (.int .i64 a0.2.2.2.1)), (.v (.int .i64 a0.2.2.2.2.1))])] [] (spec_l25Sum.res a0 y) (spec_l25Sum.out a0 y) := by
  refine spec_intro (G51_ok.at tok []) (ct := [(4, some [1, 4, 5, 6, 25, 26, 27, 28, 29, 30]), (6, some [1, 4, 5, 6, 25, 26, 27, 28, 29, 30])]) Try.func106 rfl (by kernel_rfl) (by kernel_rfl) rfl ?_
  repeat' first
    | ((with_reducible refine eqg ?_); exact rfl)
    | ((with_reducible refine KOb.mk ?_); kernel_rfl)
    | ((with_reducible intro h); (repeat (first | replace H := grd_k H | replace H := out_step H (by assumption))); first | replace H := cond_t h H | replace H := cond_f h H | exact absurd h (by decide) | skip)
    | ((with_reducible refine Ob.mk ?_); first | (with_reducible rfl) | (first | ((repeat (first | (with_reducible exact grd_p H) | (replace H := grd_k H) | (replace H := out_step H (by assumption)))); done) | rfl | ((repeat (first | exact grd_p H | replace H := grd_k H | replace H := out_step H (by assumption))); done) | ((repeat (first | exact grd_p H | (have hp := grd_p H; exact hp) | replace H := grd_k H | replace H := out_step H (by assumption) | (replace H := bind_some H; obtain ⟨_, _, H⟩ := H))); done) | (repeat (first | exact grd_p H | replace H := grd_k H | replace H := out_step H (by assumption)))))
    | (with_reducible exact True.intro)
    | ((conv => whnf); first
        | (with_reducible refine And.intro ?_ ?_)
        | (with_reducible exact True.intro)
        | ((with_reducible refine Ob.mk ?_); first | (with_reducible rfl) | (first | ((repeat (first | (with_reducible exact grd_p H) | (replace H := grd_k H) | (replace H := out_step H (by assumption)))); done) | rfl | ((repeat (first | exact grd_p H | replace H := grd_k H | replace H := out_step H (by assumption))); done) | ((repeat (first | exact grd_p H | (have hp := grd_p H; exact hp) | replace H := grd_k H | replace H := out_step H (by assumption) | (replace H := bind_some H; obtain ⟨_, _, H⟩ := H))); done) | (repeat (first | exact grd_p H | replace H := grd_k H | replace H := out_step H (by assumption)))))
        | ((repeat (first | replace H := grd_k H | replace H := out_step H (by assumption))); refine loop_iter (G51_ok.at tok []) (ct := [(4, some [1, 4, 5, 6, 25, 26, 27, 28, 29, 30]), (6, some [1, 4, 5, 6, 25, 26, 27, 28, 29, 30])]) (F := (fun s1 : Int × Int × Int => ⟨sl [(1, (.loc 0 0 0)), (4, (.v (.int .i64 s1.1))), (5, (.v (.int .i64 s1.2.1))), (6, (.v (.int .i64 s1.2.2)))], [some (.box 26 [(.v (.int .i64 a0.1)), (.tree ty_Slot a0.2.1), (.v (.int .i64 a0.2.2.1)), (.v (.int .i64 a0.2.2.2.1)), (.v (.int .i64 a0.2.2.2.2.1))])]⟩)) (step := (fun s : Int × Int × Int => spec_l25Sum_loop1 _ s.1 s.2.1 s.2.2)) _ H (by kernel_rfl) (sub_auto ?_) ?_; rotate_left; (intro s1 r v hr H); rotate_right)
        | ((repeat (first | replace H := grd_k H | replace H := out_step H (by assumption))); refine again_step H (by assumption) (sub_auto ?_))
        | ((with_reducible refine fin_mk ?_); (repeat (first | replace H := grd_k H | replace H := out_step H (by assumption))); have H := Option.some.inj H; subst H))
    | constructor
def G52 : Env := G51.add 106 [] spec_l25Sum.S
theorem G52_ok : EnvOk Try.prog G52 := G51_ok.add ent_106 fun ar h r h1 ⟨a0, y, hy, e1, e2, e3, e4⟩ => by
  subst e3 e4; exact (spec_l25Sum.spec a0 y hy).le e1 e2
attribute [local irreducible] spec_l25Sum

noncomputable def spec_IsCleared (a0 : Ropeway) : Option (Bool × Bool) :=
  ((spec_l25Good (a0.1, a0.2.1, a0.2.2.1, a0.2.2.2.1, a0.2.2.2.2.1, ())).bind fun y1 => (cond (!y1) ((some (false, false))) ((spec_l25Sum (a0.1, a0.2.1, a0.2.2.1, a0.2.2.2.1, a0.2.2.2.2.1, ())).bind fun y2 => (cond (decide (a0.2.2.2.1 = (0 : Int))) ((some ((decide (y2.1 = (0 : Int))), true))) ((some (false, true)))))))
def spec_IsCleared.res (_ : Ropeway) (y : Bool × Bool) : AV := (.tup [(.bl y.1), (.bl y.2)])
def spec_IsCleared.out (_ : Ropeway) (_ : Bool × Bool) : List (Option LB) := []
def spec_IsCleared.S (ar : List AV) (h : List (Option LB)) (r : AV) (h1 : List (Option LB)) : Prop := ∃ a0 y, spec_IsCleared a0 = some y ∧ leL ar [(.agg [(.v (.int .i64 a0.1)), (.tree ty_Slot a0.2.1), (.v (.int .i64 a0.2.2.1)), (.v (.int .i64 a0.2.2.2.1)), (.v (.int .i64 a0.2.2.2.2.1))])] ∧ leH h [] ∧ r = spec_IsCleared.res a0 y ∧ h1 = spec_IsCleared.out a0 y
theorem spec_IsCleared.call {ar : List AV} {h : List (Option LB)} {a0 : Ropeway} {y : Bool × Bool} (H : spec_IsCleared a0 = some y) (h0 : leLk ar [(.agg [(.v (.int .i64 a0.1)), (.tree ty_Slot a0.2.1), (.v (.int .i64 a0.2.2.1)), (.v (.int .i64 a0.2.2.2.1)), (.v (.int .i64 a0.2.2.2.2.1))])] (leHk h [])) : spec_IsCleared.S ar h (spec_IsCleared.res a0 y) (spec_IsCleared.out a0 y) := ⟨a0, y, H, (args_ok h0).1, (args_ok h0).2, rfl, rfl⟩
set_option maxHeartbeats 100000000 in
set_option maxRecDepth 100000 in
theorem spec_IsCleared.spec (a0 : Ropeway) (y : Bool × Bool) (H : spec_IsCleared a0 = some y) : Spec Try.prog 31 [(.agg [(.v (.int .i64 a0.1)), (.tree ty_Slot a0.2.1), (.v (.int .i64 a0.2.2.1)), (.v (.int .i64 a0.2.2.2.1)), (.v (.int .i64 a0.2.2.2.2.1))])] [] (spec_IsCleared.res a0 y) (spec_IsCleared.out a0 y) := by
  refine spec_intro (G52_ok.at tok []) (ct := [(4, some [1, 4, 18, 19])]) Try.func31 rfl (by kernel_rfl) (by kernel_rfl) rfl ?_
  repeat' first
    | ((with_reducible refine eqg ?_); exact rfl)
    | ((with_reducible refine KOb.mk ?_); kernel_rfl)
    | ((with_reducible intro h); (repeat (first | replace H := grd_k H | replace H := out_step H (by assumption))); first | replace H := cond_t h H | replace H := cond_f h H | exact absurd h (by decide) | skip)
    | ((with_reducible refine Ob.mk ?_); first | (with_reducible rfl) | (first | ((repeat (first | (with_reducible exact grd_p H) | (replace H := grd_k H) | (replace H := out_step H (by assumption)))); done) | rfl | ((repeat (first | exact grd_p H | replace H := grd_k H | replace H := out_step H (by assumption))); done) | ((repeat (first | exact grd_p H | (have hp := grd_p H; exact hp) | replace H := grd_k H | replace H := out_step H (by assumption) | (replace H := bind_some H; obtain ⟨_, _, H⟩ := H))); done) | (repeat (first | exact grd_p H | replace H := grd_k H | replace H := out_step H (by assumption)))))
    | (with_reducible exact True.intro)
    | ((conv => whnf); first
        | (with_reducible refine And.intro ?_ ?_)
        | (with_reducible exact True.intro)
        | ((with_reducible refine Ob.mk ?_); first | (with_reducible rfl) | (first | ((repeat (first | (with_reducible exact grd_p H) | (replace H := grd_k H) | (replace H := out_step H (by assumption)))); done) | rfl | ((repeat (first | exact grd_p H | replace H := grd_k H | replace H := out_step H (by assumption))); done) | ((repeat (first | exact grd_p H | (have hp := grd_p H; exact hp) | replace H := grd_k H | replace H := out_step H (by assumption) | (replace H := bind_some H; obtain ⟨_, _, H⟩ := H))); done) | (repeat (first | exact grd_p H | replace H := grd_k H | replace H := out_step H (by assumption)))))
        | ((with_reducible refine CallW.mk ?_); (repeat (first | replace H := grd_k H | replace H := out_step H (by assumption))); replace H := bind_some H; obtain ⟨y, hy, H⟩ := H; first | ((with_reducible have hz : spec_l25Good _ = some y := hy); clear hz; refine Exists.intro _ (Exists.intro _ ⟨spec_l25Good.call hy ?_, rfl, rfl, ?_⟩)) | ((with_reducible have hz : spec_l25Sum _ = some y := hy); clear hz; refine Exists.intro _ (Exists.intro _ ⟨spec_l25Sum.call hy ?_, rfl, rfl, ?_⟩)))
        | ((with_reducible refine fin_mk ?_); (repeat (first | replace H := grd_k H | replace H := out_step H (by assumption))); have H := Option.some.inj H; subst H))
    | constructor
def G53 : Env := G52.add 31 [] spec_IsCleared.S
theorem G53_ok : EnvOk Try.prog G53 := G52_ok.add ent_31 fun ar h r h1 ⟨a0, y, hy, e1, e2, e3, e4⟩ => by
  subst e3 e4; exact (spec_IsCleared.spec a0 y hy).le e1 e2
attribute [local irreducible] spec_IsCleared

noncomputable def spec_DrawPeopleOn (a0 : (List Int)) : Option ((Ropeway) ⊕ (Ropeway)) :=
  ((spec_DrawIsRopeway a0).bind (Sum.elim (fun y2 => (some (Sum.inl (y2.1, [], y2.2.2.1, y2.2.2.2.1, y2.2.2.2.2.1, ())))) (fun y3 => (some (Sum.inr (y3.1, y3.2.1, y3.2.2.1, y3.2.2.2.1, y3.2.2.2.2.1, ()))))))
def spec_DrawPeopleOn.res (_ : (List Int)) (y : (Ropeway) ⊕ (Ropeway)) : AV := match y with
  | (.inl y) => (.agg [(.v (.int .i64 y.1)), (.v (.slice none 0 0)), (.v (.int .i64 y.2.2.1)), (.v (.int .i64 y.2.2.2.1)), (.v (.int .i64 y.2.2.2.2.1))])
  | (.inr y) => (.agg [(.v (.int .i64 y.1)), (.own 0), (.v (.int .i64 y.2.2.1)), (.v (.int .i64 y.2.2.2.1)), (.v (.int .i64 y.2.2.2.2.1))])
def spec_DrawPeopleOn.out (_ : (List Int)) (y : (Ropeway) ⊕ (Ropeway)) : List (Option LB) := match y with
  | (.inl y) => []
  | (.inr y) => [some (.arr 41 ty_Slot y.2.1)]
def spec_DrawPeopleOn.S (ar : List AV) (h : List (Option LB)) (r : AV) (h1 : List (Option LB)) : Prop := ∃ a0 y, spec_DrawPeopleOn a0 = some y ∧ leL ar [(.tree (.int .u8) a0)] ∧ leH h [] ∧ r = spec_DrawPeopleOn.res a0 y ∧ h1 = spec_DrawPeopleOn.out a0 y
theorem spec_DrawPeopleOn.call {ar : List AV} {h : List (Option LB)} {a0 : (List Int)} {y : (Ropeway) ⊕ (Ropeway)} (H : spec_DrawPeopleOn a0 = some y) (h0 : leLk ar [(.tree (.int .u8) a0)] (leHk h [])) : spec_DrawPeopleOn.S ar h (spec_DrawPeopleOn.res a0 y) (spec_DrawPeopleOn.out a0 y) := ⟨a0, y, H, (args_ok h0).1, (args_ok h0).2, rfl, rfl⟩
set_option maxHeartbeats 100000000 in
set_option maxRecDepth 100000 in
theorem spec_DrawPeopleOn.spec (a0 : (List Int)) (y : (Ropeway) ⊕ (Ropeway)) (H : spec_DrawPeopleOn a0 = some y) : Spec Try.prog 32 [(.tree (.int .u8) a0)] [] (spec_DrawPeopleOn.res a0 y) (spec_DrawPeopleOn.out a0 y) := by
  have hlen : Nat.ble ([] : List (Option LB)).length (spec_DrawPeopleOn.out a0 y).length = true := by
    rcases y with y | y <;> rfl
  refine spec_intro (G53_ok.at tok []) (ct := []) Try.func32 rfl (by kernel_rfl) (by kernel_rfl) hlen ?_
  repeat' first
    | ((with_reducible refine eqg ?_); exact rfl)
    | ((with_reducible refine KOb.mk ?_); kernel_rfl)
    | ((with_reducible intro h); (repeat (first | replace H := grd_k H | replace H := out_step H (by assumption))); first | replace H := cond_t h H | replace H := cond_f h H | exact absurd h (by decide) | skip)
    | ((with_reducible refine Ob.mk ?_); first | (with_reducible rfl) | (first | ((repeat (first | (with_reducible exact grd_p H) | (replace H := grd_k H) | (replace H := out_step H (by assumption)))); done) | rfl | ((repeat (first | exact grd_p H | replace H := grd_k H | replace H := out_step H (by assumption))); done) | ((repeat (first | exact grd_p H | (have hp := grd_p H; exact hp) | replace H := grd_k H | replace H := out_step H (by assumption) | (replace H := bind_some H; obtain ⟨_, _, H⟩ := H))); done) | (repeat (first | exact grd_p H | replace H := grd_k H | replace H := out_step H (by assumption)))))
    | (with_reducible exact True.intro)
    | ((conv => whnf); first
        | (with_reducible refine And.intro ?_ ?_)
        | (with_reducible exact True.intro)
        | ((with_reducible refine Ob.mk ?_); first | (with_reducible rfl) | (first | ((repeat (first | (with_reducible exact grd_p H) | (replace H := grd_k H) | (replace H := out_step H (by assumption)))); done) | rfl | ((repeat (first | exact grd_p H | replace H := grd_k H | replace H := out_step H (by assumption))); done) | ((repeat (first | exact grd_p H | (have hp := grd_p H; exact hp) | replace H := grd_k H | replace H := out_step H (by assumption) | (replace H := bind_some H; obtain ⟨_, _, H⟩ := H))); done) | (repeat (first | exact grd_p H | replace H := grd_k H | replace H := out_step H (by assumption)))))
        | ((with_reducible refine CallW.mk ?_); (repeat (first | replace H := grd_k H | replace H := out_step H (by assumption))); replace H := bind_some H; obtain ⟨y, hy, H⟩ := H; first | ((with_reducible have hz : spec_DrawIsRopeway _ = some y := hy); clear hz; rcases y with y | y <;> refine Exists.intro _ (Exists.intro _ ⟨spec_DrawIsRopeway.call hy ?_, rfl, rfl, ?_⟩)))
        | ((with_reducible refine fin_mk ?_); (repeat (first | replace H := grd_k H | replace H := out_step H (by assumption))); have H := Option.some.inj H; subst H))
    | constructor
def G54 : Env := G53.add 32 [] spec_DrawPeopleOn.S
theorem G54_ok : EnvOk Try.prog G54 := G53_ok.add ent_32 fun ar h r h1 ⟨a0, y, hy, e1, e2, e3, e4⟩ => by
  subst e3 e4; exact (spec_DrawPeopleOn.spec a0 y hy).le e1 e2
attribute [local irreducible] spec_DrawPeopleOn

end Go.Proofs.Ytpopcdnjnligiaa
