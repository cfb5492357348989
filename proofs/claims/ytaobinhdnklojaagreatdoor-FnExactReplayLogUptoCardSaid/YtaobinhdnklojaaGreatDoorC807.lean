/-
  Contracts, printed by a program.
-/
import Derived.Test.YtaobinhdnklojaaGreatDoorC804
namespace Go.Proofs.YtaobinhdnklojaaGreatDoor
open Go.RowKit
set_option maxHeartbeats 100000000
set_option maxRecDepth 100000
attribute [local irreducible] Ob loopwp Sub Spec Fin Again CallW CutC KOb iter

attribute [local irreducible] spec_l25Own spec_l1In spec_l25Good spec_l1Num_f spec_l27Open

noncomputable def spec_l27Log (a0 : Log) : Option (Bool) :=
  (cond (decide ((30000 : Int) < (w64 ((a0.1.size : Int) + (a0.2.1.size : Int))))) ((some false)) (grd (a0.1.size + a0.2.1.size ≤ 9223372036854775807) ((spec_l27Open (a0.1 ++ a0.2.1)).bind fun y1 => ((spec_l27Open a0.1).bind fun y2 => (cond (decide (y1.2 = (w64 ((a0.1.size : Int) + (a0.2.1.size : Int))))) (cond (decide (y2.2 = (a0.1.size : Int))) ((some (decide ((y1.1.length : Int) = a0.2.2.1)))) ((some false))) ((some false)))))))
def spec_l27Log.res (_ : Log) (y : Bool) : AV := (.bl y)
def spec_l27Log.out (_ : Log) (_ : Bool) : List (Option LB) := []
def spec_l27Log.S (ar : List AV) (h : List (Option LB)) (r : AV) (h1 : List (Option LB)) : Prop := ∃ a0 y, spec_l27Log a0 = some y ∧ leL ar [(.agg [(.v (.string a0.1)), (.v (.string a0.2.1)), (.v (.int .i64 a0.2.2.1))])] ∧ leH h [] ∧ r = spec_l27Log.res a0 y ∧ h1 = spec_l27Log.out a0 y
theorem spec_l27Log.call {ar h a0 y} (H : spec_l27Log a0 = some y) (h0 : leLk ar [(.agg [(.v (.string a0.1)), (.v (.string a0.2.1)), (.v (.int .i64 a0.2.2.1))])] (leHk h [])) : spec_l27Log.S ar h (spec_l27Log.res a0 y) (spec_l27Log.out a0 y) := ⟨a0, y, H, (args_ok h0).1, (args_ok h0).2, rfl, rfl⟩
theorem spec_l27Log.spec (a0 y) (H : spec_l27Log a0 = some y) : Spec Tryz.prog 35 [(.agg [(.v (.string a0.1)), (.v (.string a0.2.1)), (.v (.int .i64 a0.2.2.1))])] [] (spec_l27Log.res a0 y) (spec_l27Log.out a0 y) := by
  refine spec_intro (G24_ok.at tok []) (ct := [(4, some [1, 3, 4, 40, 41, 42, 43, 44, 47, 48, 49, 50, 51])]) Tryz.func35 rfl (by kernel_rfl) (by kernel_rfl) rfl ?_
  repeat' first
    | ((with_reducible refine eqg ?_); exact rfl)
    | ((with_reducible refine KOb.mk ?_); kernel_rfl)
    | ((with_reducible intro h); (repeat first | replace H := grd_k H | replace H := out_step H ‹_›); first | replace H := cond_t h H | replace H := cond_f h H | exact absurd h (by decide) | skip)
    | ((with_reducible refine Ob.mk ?_); first | (with_reducible rfl) | (first | ((repeat (first | (with_reducible exact grd_p H) | replace H := grd_k H | replace H := out_step H ‹_›)); done) | rfl | ((repeat (first | exact grd_p H | (have hp := grd_p H; exact hp) | replace H := grd_k H | replace H := out_step H ‹_› | (replace H := bind_some H; obtain ⟨_, _, H⟩ := H))); done) | (repeat (first | exact grd_p H | replace H := grd_k H | replace H := out_step H ‹_›))))
    | (with_reducible exact True.intro)
    | ((conv => whnf); first
        | (with_reducible refine And.intro ?_ ?_)
        | (with_reducible exact True.intro)
        | (with_reducible refine (?_ : Ob _))
        | ((with_reducible refine CallW.mk ?_); (repeat first | replace H := grd_k H | replace H := out_step H ‹_›); replace H := bind_some H; obtain ⟨y, hy, H⟩ := H; first | ((with_reducible have hz : spec_l27Open _ = some y := hy); clear hz; refine ⟨_, _, spec_l27Open.call hy ?_, rfl, rfl, ?_⟩))
        | ((with_reducible refine fin_mk ?_); (repeat first | replace H := grd_k H | replace H := out_step H ‹_›); have H := Option.some.inj H; subst H))
    | constructor
def G25 : Env := G24.add 35 [] spec_l27Log.S
theorem G25_ok : EnvOk Tryz.prog G25 := G24_ok.add ent_35 fun ar h r h1 ⟨a0, y, hy, e1, e2, e3, e4⟩ => by
  subst e3 e4; exact (spec_l27Log.spec a0 y hy).le e1 e2
attribute [local irreducible] spec_l27Log

noncomputable def spec_l28Good (a0 : Console) : Option (Bool) :=
  ((spec_l25Good (a0.1.1, a0.1.2.1, a0.1.2.2.1, a0.1.2.2.2.1, a0.1.2.2.2.2.1, ())).bind fun y1 => (cond y1 ((spec_l27Log (a0.2.1.1, a0.2.1.2.1, a0.2.1.2.2.1, ())).bind fun y2 => (some y2)) ((some false))))
def spec_l28Good.res (_ : Console) (y : Bool) : AV := (.bl y)
def spec_l28Good.out (_ : Console) (_ : Bool) : List (Option LB) := []
def spec_l28Good.S (ar : List AV) (h : List (Option LB)) (r : AV) (h1 : List (Option LB)) : Prop := ∃ a0 y, spec_l28Good a0 = some y ∧ leL ar [(.agg [(.v (.int .i64 a0.1.1)), (.tree ty_Slot a0.1.2.1), (.v (.int .i64 a0.1.2.2.1)), (.v (.int .i64 a0.1.2.2.2.1)), (.v (.int .i64 a0.1.2.2.2.2.1)), (.v (.string a0.2.1.1)), (.v (.string a0.2.1.2.1)), (.v (.int .i64 a0.2.1.2.2.1))])] ∧ leH h [] ∧ r = spec_l28Good.res a0 y ∧ h1 = spec_l28Good.out a0 y
theorem spec_l28Good.call {ar h a0 y} (H : spec_l28Good a0 = some y) (h0 : leLk ar [(.agg [(.v (.int .i64 a0.1.1)), (.tree ty_Slot a0.1.2.1), (.v (.int .i64 a0.1.2.2.1)), (.v (.int .i64 a0.1.2.2.2.1)), (.v (.int .i64 a0.1.2.2.2.2.1)), (.v (.string a0.2.1.1)), (.v (.string a0.2.1.2.1)), (.v (.int .i64 a0.2.1.2.2.1))])] (leHk h [])) : spec_l28Good.S ar h (spec_l28Good.res a0 y) (spec_l28Good.out a0 y) := ⟨a0, y, H, (args_ok h0).1, (args_ok h0).2, rfl, rfl⟩
theorem spec_l28Good.spec (a0 y) (H : spec_l28Good a0 = some y) : Spec Tryz.prog 40 [(.agg [(.v (.int .i64 a0.1.1)), (.tree ty_Slot a0.1.2.1), (.v (.int .i64 a0.1.2.2.1)), (.v (.int .i64 a0.1.2.2.2.1)), (.v (.int .i64 a0.1.2.2.2.2.1)), (.v (.string a0.2.1.1)), (.v (.string a0.2.1.2.1)), (.v (.int .i64 a0.2.1.2.2.1))])] [] (spec_l28Good.res a0 y) (spec_l28Good.out a0 y) := by
  refine spec_intro (G25_ok.at tok []) (ct := []) Tryz.func40 rfl (by kernel_rfl) (by kernel_rfl) rfl ?_
  repeat' first
    | ((with_reducible refine eqg ?_); exact rfl)
    | ((with_reducible refine KOb.mk ?_); kernel_rfl)
    | ((with_reducible intro h); (repeat first | replace H := grd_k H | replace H := out_step H ‹_›); first | replace H := cond_t h H | replace H := cond_f h H | exact absurd h (by decide) | skip)
    | ((with_reducible refine Ob.mk ?_); first | (with_reducible rfl) | (first | ((repeat (first | (with_reducible exact grd_p H) | replace H := grd_k H | replace H := out_step H ‹_›)); done) | rfl | ((repeat (first | exact grd_p H | (have hp := grd_p H; exact hp) | replace H := grd_k H | replace H := out_step H ‹_› | (replace H := bind_some H; obtain ⟨_, _, H⟩ := H))); done) | (repeat (first | exact grd_p H | replace H := grd_k H | replace H := out_step H ‹_›))))
    | (with_reducible exact True.intro)
    | ((conv => whnf); first
        | (with_reducible refine And.intro ?_ ?_)
        | (with_reducible exact True.intro)
        | (with_reducible refine (?_ : Ob _))
        | ((with_reducible refine CallW.mk ?_); (repeat first | replace H := grd_k H | replace H := out_step H ‹_›); replace H := bind_some H; obtain ⟨y, hy, H⟩ := H; first | ((with_reducible have hz : spec_l25Good _ = some y := hy); clear hz; refine ⟨_, _, spec_l25Good.call hy ?_, rfl, rfl, ?_⟩) | ((with_reducible have hz : spec_l27Log _ = some y := hy); clear hz; refine ⟨_, _, spec_l27Log.call hy ?_, rfl, rfl, ?_⟩))
        | ((with_reducible refine fin_mk ?_); (repeat first | replace H := grd_k H | replace H := out_step H ‹_›); have H := Option.some.inj H; subst H))
    | constructor
def G26 : Env := G25.add 40 [] spec_l28Good.S
theorem G26_ok : EnvOk Tryz.prog G26 := G25_ok.add ent_40 fun ar h r h1 ⟨a0, y, hy, e1, e2, e3, e4⟩ => by
  subst e3 e4; exact (spec_l28Good.spec a0 y hy).le e1 e2
attribute [local irreducible] spec_l28Good

noncomputable def spec_l25Step (a0 : RopeStep) : Option (Bool) :=
  (cond (decide (a0.1 = (1 : Int))) ((spec_l1In a0.2.1 (0 : Int) (3 : Int)).bind fun y1 => (some y1)) ((cond (decide (a0.1 = (2 : Int))) ((some true)) ((some (decide (a0.1 = (4 : Int)))))).bind fun z2 => (cond z2 ((some (decide (a0.2.1 = (0 : Int))))) (cond (decide (a0.1 = (3 : Int))) ((spec_l1In a0.2.1 (1 : Int) (20 : Int)).bind fun y3 => (some y3)) ((spec_l1In a0.1 (5 : Int) (7 : Int)).bind fun y4 => (cond y4 ((spec_l1In a0.2.1 (0 : Int) (1 : Int)).bind fun y5 => (some y5)) ((some false))))))))
def spec_l25Step.res (_ : RopeStep) (y : Bool) : AV := (.bl y)
def spec_l25Step.out (_ : RopeStep) (_ : Bool) : List (Option LB) := []
def spec_l25Step.S (ar : List AV) (h : List (Option LB)) (r : AV) (h1 : List (Option LB)) : Prop := ∃ a0 y, spec_l25Step a0 = some y ∧ leL ar [(.agg [(.v (.int .i64 a0.1)), (.v (.int .i64 a0.2.1))])] ∧ leH h [] ∧ r = spec_l25Step.res a0 y ∧ h1 = spec_l25Step.out a0 y
theorem spec_l25Step.call {ar h a0 y} (H : spec_l25Step a0 = some y) (h0 : leLk ar [(.agg [(.v (.int .i64 a0.1)), (.v (.int .i64 a0.2.1))])] (leHk h [])) : spec_l25Step.S ar h (spec_l25Step.res a0 y) (spec_l25Step.out a0 y) := ⟨a0, y, H, (args_ok h0).1, (args_ok h0).2, rfl, rfl⟩
theorem spec_l25Step.spec (a0 y) (H : spec_l25Step a0 = some y) : Spec Tryz.prog 170 [(.agg [(.v (.int .i64 a0.1)), (.v (.int .i64 a0.2.1))])] [] (spec_l25Step.res a0 y) (spec_l25Step.out a0 y) := by
  refine spec_intro (G26_ok.at tok []) (ct := [(6, none)]) Tryz.func170 rfl (by kernel_rfl) (by kernel_rfl) rfl ?_
  repeat' first
    | ((with_reducible refine eqg ?_); exact rfl)
    | ((with_reducible refine KOb.mk ?_); kernel_rfl)
    | ((with_reducible intro h); (repeat first | replace H := grd_k H | replace H := out_step H ‹_›); first | replace H := cond_t h H | replace H := cond_f h H | exact absurd h (by decide) | skip)
    | ((with_reducible refine Ob.mk ?_); first | (with_reducible rfl) | (first | ((repeat (first | (with_reducible exact grd_p H) | replace H := grd_k H | replace H := out_step H ‹_›)); done) | rfl | ((repeat (first | exact grd_p H | (have hp := grd_p H; exact hp) | replace H := grd_k H | replace H := out_step H ‹_› | (replace H := bind_some H; obtain ⟨_, _, H⟩ := H))); done) | (repeat (first | exact grd_p H | replace H := grd_k H | replace H := out_step H ‹_›))))
    | (with_reducible exact True.intro)
    | ((conv => whnf); first
        | (with_reducible refine And.intro ?_ ?_)
        | (with_reducible exact True.intro)
        | (with_reducible refine (?_ : Ob _))
        | ((with_reducible refine CallW.mk ?_); (repeat first | replace H := grd_k H | replace H := out_step H ‹_›); replace H := bind_some H; obtain ⟨y, hy, H⟩ := H; first | ((with_reducible have hz : spec_l1In _ _ _ = some y := hy); clear hz; refine ⟨_, _, spec_l1In.call hy ?_, rfl, rfl, ?_⟩))
        | ((with_reducible refine cutAt (id := 6) ?_); (repeat first | replace H := grd_k H | replace H := out_step H ‹_›); first | (replace H := bind_some H; obtain ⟨z, hz, H⟩ := H; refine CutC.mk (id := 6) ⟨sl [(1, (.loc 0 0 0)), (4, (.v (.int .i64 a0.1))), (10, (.bl z))], [some (.box 120 [(.v (.int .i64 a0.1)), (.v (.int .i64 a0.2.1))])]⟩ ?_ ?_; (replace H := hz)))
        | ((repeat first | replace H := grd_k H | replace H := out_step H ‹_›); have H := Option.some.inj H; subst H; with_reducible refine sub_auto ?_)
        | ((with_reducible refine fin_mk ?_); (repeat first | replace H := grd_k H | replace H := out_step H ‹_›); have H := Option.some.inj H; subst H))
    | constructor
def G27 : Env := G26.add 170 [] spec_l25Step.S
theorem G27_ok : EnvOk Tryz.prog G27 := G26_ok.add ent_170 fun ar h r h1 ⟨a0, y, hy, e1, e2, e3, e4⟩ => by
  subst e3 e4; exact (spec_l25Step.spec a0 y hy).le e1 e2
attribute [local irreducible] spec_l25Step

noncomputable def spec_l25Open_loop1 (a0 : Ropeway) (v3 : Int) (v4 : (List Int)) : Option (Lp (Int × (List Int)) (((List Int)))) :=
  (cond (decide (v3 < (a0.2.1.length : Int))) (grd (0 ≤ v3 ∧ v3 < (a0.2.1.length : Int)) (cond ((a0.2.1.getD v3.toNat d_Slot).2.1) (grd (v4.length + [v3].length ≤ 140737488355328 / 8 ∧ v4.length + [v3].length ≤ 140737488355328) (some (.go ((w64 (v3 + (1 : Int))), (v4 ++ [v3]))))) (some (.go ((w64 (v3 + (1 : Int))), v4))))) ((some (.out v4))))
noncomputable def spec_l25Open (a0 : Ropeway) : Option ((List Int)) :=
  ((iter (fun s => spec_l25Open_loop1 a0 s.1 s.2) ((0 : Int), ([] : List Int))).bind (fun r5 => (some r5)))
def spec_l25Open.res (_ : Ropeway) (_ : (List Int)) : AV := (.own 0)
def spec_l25Open.out (_ : Ropeway) (y : (List Int)) : List (Option LB) := [some (.arr 3 (.int .i64) y)]
def spec_l25Open.S (ar : List AV) (h : List (Option LB)) (r : AV) (h1 : List (Option LB)) : Prop := ∃ a0 y, spec_l25Open a0 = some y ∧ leL ar [(.agg [(.v (.int .i64 a0.1)), (.tree ty_Slot a0.2.1), (.v (.int .i64 a0.2.2.1)), (.v (.int .i64 a0.2.2.2.1)), (.v (.int .i64 a0.2.2.2.2.1))])] ∧ leH h [] ∧ r = spec_l25Open.res a0 y ∧ h1 = spec_l25Open.out a0 y
theorem spec_l25Open.call {ar h a0 y} (H : spec_l25Open a0 = some y) (h0 : leLk ar [(.agg [(.v (.int .i64 a0.1)), (.tree ty_Slot a0.2.1), (.v (.int .i64 a0.2.2.1)), (.v (.int .i64 a0.2.2.2.1)), (.v (.int .i64 a0.2.2.2.2.1))])] (leHk h [])) : spec_l25Open.S ar h (spec_l25Open.res a0 y) (spec_l25Open.out a0 y) := ⟨a0, y, H, (args_ok h0).1, (args_ok h0).2, rfl, rfl⟩
theorem spec_l25Open.spec (a0 y) (H : spec_l25Open a0 = some y) : Spec Tryz.prog 117 [(.agg [(.v (.int .i64 a0.1)), (.tree ty_Slot a0.2.1), (.v (.int .i64 a0.2.2.1)), (.v (.int .i64 a0.2.2.2.1)), (.v (.int .i64 a0.2.2.2.2.1))])] [] (spec_l25Open.res a0 y) (spec_l25Open.out a0 y) := by
  refine spec_intro (G27_ok.at tok []) (ct := [(4, some [1, 3, 4])]) Tryz.func117 rfl (by kernel_rfl) (by kernel_rfl) rfl ?_
  repeat' first
    | ((with_reducible refine eqg ?_); exact rfl)
    | ((with_reducible refine KOb.mk ?_); kernel_rfl)
    | ((with_reducible intro h); (repeat first | replace H := grd_k H | replace H := out_step H ‹_›); first | replace H := cond_t h H | replace H := cond_f h H | exact absurd h (by decide) | skip)
    | ((with_reducible refine Ob.mk ?_); first | (with_reducible rfl) | (first | ((repeat (first | (with_reducible exact grd_p H) | replace H := grd_k H | replace H := out_step H ‹_›)); done) | rfl | ((repeat (first | exact grd_p H | (have hp := grd_p H; exact hp) | replace H := grd_k H | replace H := out_step H ‹_› | (replace H := bind_some H; obtain ⟨_, _, H⟩ := H))); done) | (repeat (first | exact grd_p H | replace H := grd_k H | replace H := out_step H ‹_›))))
    | (with_reducible exact True.intro)
    | ((conv => whnf); first
        | (with_reducible refine And.intro ?_ ?_)
        | (with_reducible exact True.intro)
        | (with_reducible refine (?_ : Ob _))
        | ((repeat first | replace H := grd_k H | replace H := out_step H ‹_›); refine loop_iter (G27_ok.at tok []) (ct := [(4, some [1, 3, 4])]) (F := (fun s1 : Int × (List Int) => ⟨sl [(1, (.loc 0 0 0)), (3, (.own 1)), (4, (.v (.int .i64 s1.1)))], [some (.box 38 [(.v (.int .i64 a0.1)), (.tree ty_Slot a0.2.1), (.v (.int .i64 a0.2.2.1)), (.v (.int .i64 a0.2.2.2.1)), (.v (.int .i64 a0.2.2.2.2.1))]), some (.arr 3 (.int .i64) s1.2)]⟩)) (step := (fun s : Int × (List Int) => spec_l25Open_loop1 _ s.1 s.2)) _ H (by kernel_rfl) (sub_auto ?_) ?_; rotate_left; (intro s1 r v hr H); rotate_right)
        | ((repeat first | replace H := grd_k H | replace H := out_step H ‹_›); refine again_step H (by assumption) (sub_auto ?_))
        | ((with_reducible refine fin_mk ?_); (repeat first | replace H := grd_k H | replace H := out_step H ‹_›); have H := Option.some.inj H; subst H))
    | constructor
def G28 : Env := G27.add 117 [] spec_l25Open.S
theorem G28_ok : EnvOk Tryz.prog G28 := G27_ok.add ent_117 fun ar h r h1 ⟨a0, y, hy, e1, e2, e3, e4⟩ => by
  subst e3 e4; exact (spec_l25Open.spec a0 y hy).le e1 e2
attribute [local irreducible] spec_l25Open

noncomputable def spec_l25Find_loop1 (a0 : Ropeway) (a1 : Int) (v2 : Int) : Option (Lp (Int) ((Int) ⊕ (Unit))) :=
  (cond (decide (v2 < (a0.2.1.length : Int))) (grd (0 ≤ v2 ∧ v2 < (a0.2.1.length : Int)) (cond (decide (((a0.2.1.getD v2.toNat d_Slot).1) = a1)) ((some (.out (Sum.inl v2)))) (some (.go (w64 (v2 + (1 : Int))))))) ((some (.out (Sum.inr ())))))
noncomputable def spec_l25Find (a0 : Ropeway) (a1 : Int) : Option (Int) :=
  ((iter (fun s => spec_l25Find_loop1 a0 a1 s) (0 : Int)).bind (Sum.elim (fun r4 => (some r4)) (fun _ => (some ((-1) : Int)))))
def spec_l25Find.res (_ : Ropeway) (_ : Int) (y : Int) : AV := (.v (.int .i64 y))
def spec_l25Find.out (_ : Ropeway) (_ : Int) (_ : Int) : List (Option LB) := []
def spec_l25Find.S (ar : List AV) (h : List (Option LB)) (r : AV) (h1 : List (Option LB)) : Prop := ∃ a0 a1 y, spec_l25Find a0 a1 = some y ∧ leL ar [(.agg [(.v (.int .i64 a0.1)), (.tree ty_Slot a0.2.1), (.v (.int .i64 a0.2.2.1)), (.v (.int .i64 a0.2.2.2.1)), (.v (.int .i64 a0.2.2.2.2.1))]), (.v (.int .i64 a1))] ∧ leH h [] ∧ r = spec_l25Find.res a0 a1 y ∧ h1 = spec_l25Find.out a0 a1 y
theorem spec_l25Find.call {ar h a0 a1 y} (H : spec_l25Find a0 a1 = some y) (h0 : leLk ar [(.agg [(.v (.int .i64 a0.1)), (.tree ty_Slot a0.2.1), (.v (.int .i64 a0.2.2.1)), (.v (.int .i64 a0.2.2.2.1)), (.v (.int .i64 a0.2.2.2.2.1))]), (.v (.int .i64 a1))] (leHk h [])) : spec_l25Find.S ar h (spec_l25Find.res a0 a1 y) (spec_l25Find.out a0 a1 y) := ⟨a0, a1, y, H, (args_ok h0).1, (args_ok h0).2, rfl, rfl⟩
theorem spec_l25Find.spec (a0 a1 y) (H : spec_l25Find a0 a1 = some y) : Spec Tryz.prog 154 [(.agg [(.v (.int .i64 a0.1)), (.tree ty_Slot a0.2.1), (.v (.int .i64 a0.2.2.1)), (.v (.int .i64 a0.2.2.2.1)), (.v (.int .i64 a0.2.2.2.2.1))]), (.v (.int .i64 a1))] [] (spec_l25Find.res a0 a1 y) (spec_l25Find.out a0 a1 y) := by
  refine spec_intro (G28_ok.at tok []) (ct := [(3, some [1, 2, 5])]) Tryz.func154 rfl (by kernel_rfl) (by kernel_rfl) rfl ?_
  repeat' first
    | ((with_reducible refine eqg ?_); exact rfl)
    | ((with_reducible refine KOb.mk ?_); kernel_rfl)
    | ((with_reducible intro h); (repeat first | replace H := grd_k H | replace H := out_step H ‹_›); first | replace H := cond_t h H | replace H := cond_f h H | exact absurd h (by decide) | skip)
    | ((with_reducible refine Ob.mk ?_); first | (with_reducible rfl) | (first | ((repeat (first | (with_reducible exact grd_p H) | replace H := grd_k H | replace H := out_step H ‹_›)); done) | rfl | ((repeat (first | exact grd_p H | (have hp := grd_p H; exact hp) | replace H := grd_k H | replace H := out_step H ‹_› | (replace H := bind_some H; obtain ⟨_, _, H⟩ := H))); done) | (repeat (first | exact grd_p H | replace H := grd_k H | replace H := out_step H ‹_›))))
    | (with_reducible exact True.intro)
    | ((conv => whnf); first
        | (with_reducible refine And.intro ?_ ?_)
        | (with_reducible exact True.intro)
        | (with_reducible refine (?_ : Ob _))
        | ((repeat first | replace H := grd_k H | replace H := out_step H ‹_›); refine loop_iter (G28_ok.at tok []) (ct := [(3, some [1, 2, 5])]) (F := (fun s1 : Int => ⟨sl [(1, (.v (.int .i64 a1))), (2, (.loc 0 0 0)), (5, (.v (.int .i64 s1)))], [some (.box 38 [(.v (.int .i64 a0.1)), (.tree ty_Slot a0.2.1), (.v (.int .i64 a0.2.2.1)), (.v (.int .i64 a0.2.2.2.1)), (.v (.int .i64 a0.2.2.2.2.1))])]⟩)) (step := (fun s : Int => spec_l25Find_loop1 _ _ s)) _ H (by kernel_rfl) (sub_auto ?_) ?_; rotate_left; (intro s1 r v hr H); rotate_right)
        | ((repeat first | replace H := grd_k H | replace H := out_step H ‹_›); refine again_step H (by assumption) (sub_auto ?_))
        | ((with_reducible refine fin_mk ?_); (repeat first | replace H := grd_k H | replace H := out_step H ‹_›); have H := Option.some.inj H; subst H))
    | constructor
def G29 : Env := G28.add 154 [] spec_l25Find.S
theorem G29_ok : EnvOk Tryz.prog G29 := G28_ok.add ent_154 fun ar h r h1 ⟨a0, a1, y, hy, e1, e2, e3, e4⟩ => by
  subst e3 e4; exact (spec_l25Find.spec a0 a1 y hy).le e1 e2
attribute [local irreducible] spec_l25Find

noncomputable def spec_l25Rope_loop1 (a0 : Ropeway) (v18 : Int) (v19 : Int) (v20 : Int) (v21 : Int) (v22 : Int) (v23 : (List Slot)) : Option (Lp (Int × Int × Int × Int × Int × (List Slot)) ((Int × Int × Int × Int × (List Slot)))) :=
  (cond (decide (v18 < (a0.2.1.length : Int))) (grd ((a0.2.1.length : Int) ≠ 0) (grd (0 ≤ v18 ∧ v18 < (a0.2.1.length : Int)) (grd (0 ≤ (Int.tmod (w64 (v18 + (1 : Int))) (a0.2.1.length : Int)) ∧ (Int.tmod (w64 (v18 + (1 : Int))) (a0.2.1.length : Int)) < (v23.length : Int)) (some (.go ((w64 (v18 + (1 : Int))), v19, v20, v21, v22, (v23.set ((Int.tmod (w64 (v18 + (1 : Int))) (a0.2.1.length : Int)).toNat) ((a0.2.1.getD v18.toNat d_Slot).1, (a0.2.1.getD v18.toNat d_Slot).2.1, (a0.2.1.getD v18.toNat d_Slot).2.2.1, ())))))))) ((some (.out (v19, v20, v21, v22, v23)))))
noncomputable def spec_l25Rope (a0 : Ropeway) (a1 : RopeStep) : Option (Ropeway × Bool) :=
  ((spec_l25Own (a0.1, a0.2.1, a0.2.2.1, a0.2.2.2.1, a0.2.2.2.2.1, ())).bind fun y1 => (cond (decide (a1.1 = (1 : Int))) (cond (decide (a1.2.1 = a0.1)) ((some ((a1.2.1, y1.2.1, y1.2.2.1, y1.2.2.2.1, y1.2.2.2.2.1, ()), false))) (cond (decide (a0.1 = (3 : Int))) (cond (!decide (a1.2.1 = (0 : Int))) ((some ((a1.2.1, y1.2.1, y1.2.2.1, y1.2.2.2.1, y1.2.2.2.2.1, ()), false))) (cond (!decide (a1.2.1 = (2 : Int))) ((some ((a1.2.1, y1.2.1, y1.2.2.1, y1.2.2.2.1, y1.2.2.2.2.1, ()), true))) ((some ((a1.2.1, y1.2.1, y1.2.2.1, y1.2.2.2.1, y1.2.2.2.2.1, ()), (decide (a0.1 = (1 : Int)))))))) (cond (!decide (a1.2.1 = (2 : Int))) ((some ((a1.2.1, y1.2.1, y1.2.2.1, y1.2.2.2.1, y1.2.2.2.2.1, ()), true))) ((some ((a1.2.1, y1.2.1, y1.2.2.1, y1.2.2.2.1, y1.2.2.2.2.1, ()), (decide (a0.1 = (1 : Int))))))))) (cond (decide (a1.1 = (2 : Int))) ((iter (fun s => spec_l25Rope_loop1 a0 s.1 s.2.1 s.2.2.1 s.2.2.2.1 s.2.2.2.2.1 s.2.2.2.2.2) ((0 : Int), y1.1, y1.2.2.1, y1.2.2.2.1, y1.2.2.2.2.1, y1.2.1)).bind (fun r24 => (cond (decide (a0.1 = (1 : Int))) ((spec_l25Open (a0.1, a0.2.1, a0.2.2.1, a0.2.2.2.1, a0.2.2.2.2.1, ())).bind fun y25 => (some ((r24.1, r24.2.2.2.2, r24.2.1, r24.2.2.1, r24.2.2.2.1, ()), (decide ((y25.length : Int) = (0 : Int)))))) (cond (decide (a0.1 = (2 : Int))) ((spec_l25Open (a0.1, a0.2.1, a0.2.2.1, a0.2.2.2.1, a0.2.2.2.2.1, ())).bind fun y26 => (some ((r24.1, r24.2.2.2.2, r24.2.1, r24.2.2.1, r24.2.2.2.1, ()), (decide ((y26.length : Int) = (0 : Int)))))) ((some ((r24.1, r24.2.2.2.2, r24.2.1, r24.2.2.1, r24.2.2.2.1, ()), false))))))) (cond (decide (a1.1 = (3 : Int))) (grd (0 ≤ (0 : Int) ∧ (0 : Int) < (y1.2.1.length : Int)) (cond (decide (a0.1 = (0 : Int))) (grd (0 ≤ (0 : Int) ∧ (0 : Int) < (a0.2.1.length : Int)) (cond (decide (((a0.2.1.getD ((0 : Int).toNat) d_Slot).1) = (0 : Int))) ((spec_l25Find (a0.1, a0.2.1, a0.2.2.1, a0.2.2.2.1, a0.2.2.2.2.1, ()) a1.2.1).bind fun y27 => (some ((y1.1, (y1.2.1.set ((0 : Int).toNat) (a1.2.1, false, (0 : Int), ())), y1.2.2.1, y1.2.2.2.1, y1.2.2.2.2.1, ()), (decide (y27 < (0 : Int)))))) ((some ((y1.1, (y1.2.1.set ((0 : Int).toNat) (a1.2.1, false, (0 : Int), ())), y1.2.2.1, y1.2.2.2.1, y1.2.2.2.2.1, ()), false))))) ((some ((y1.1, (y1.2.1.set ((0 : Int).toNat) (a1.2.1, false, (0 : Int), ())), y1.2.2.1, y1.2.2.2.1, y1.2.2.2.2.1, ()), false))))) (grd (0 ≤ (0 : Int) ∧ (0 : Int) < (y1.2.1.length : Int)) (cond (decide (a0.1 = (0 : Int))) (grd (0 ≤ (0 : Int) ∧ (0 : Int) < (a0.2.1.length : Int)) (cond (decide ((0 : Int) < ((a0.2.1.getD ((0 : Int).toNat) d_Slot).1))) (grd (0 ≤ (0 : Int) ∧ (0 : Int) < (a0.2.1.length : Int)) ((some ((y1.1, (y1.2.1.set ((0 : Int).toNat) ((0 : Int), false, (0 : Int), ())), y1.2.2.1, y1.2.2.2.1, y1.2.2.2.2.1, ()), (decide (((a0.2.1.getD ((0 : Int).toNat) d_Slot).2.2.1) = (0 : Int))))))) ((some ((y1.1, (y1.2.1.set ((0 : Int).toNat) ((0 : Int), false, (0 : Int), ())), y1.2.2.1, y1.2.2.2.1, y1.2.2.2.2.1, ()), false))))) ((some ((y1.1, (y1.2.1.set ((0 : Int).toNat) ((0 : Int), false, (0 : Int), ())), y1.2.2.1, y1.2.2.2.1, y1.2.2.2.2.1, ()), false)))))))))
def spec_l25Rope.res (_ : Ropeway) (_ : RopeStep) (y : Ropeway × Bool) : AV := (.tup [(.agg [(.v (.int .i64 y.1.1)), (.own 0), (.v (.int .i64 y.1.2.2.1)), (.v (.int .i64 y.1.2.2.2.1)), (.v (.int .i64 y.1.2.2.2.2.1))]), (.bl y.2)])
def spec_l25Rope.out (_ : Ropeway) (_ : RopeStep) (y : Ropeway × Bool) : List (Option LB) := [some (.arr 96 ty_Slot y.1.2.1)]
def spec_l25Rope.S (ar : List AV) (h : List (Option LB)) (r : AV) (h1 : List (Option LB)) : Prop := ∃ a0 a1 y, spec_l25Rope a0 a1 = some y ∧ leL ar [(.agg [(.v (.int .i64 a0.1)), (.tree ty_Slot a0.2.1), (.v (.int .i64 a0.2.2.1)), (.v (.int .i64 a0.2.2.2.1)), (.v (.int .i64 a0.2.2.2.2.1))]), (.agg [(.v (.int .i64 a1.1)), (.v (.int .i64 a1.2.1))])] ∧ leH h [] ∧ r = spec_l25Rope.res a0 a1 y ∧ h1 = spec_l25Rope.out a0 a1 y
theorem spec_l25Rope.call {ar h a0 a1 y} (H : spec_l25Rope a0 a1 = some y) (h0 : leLk ar [(.agg [(.v (.int .i64 a0.1)), (.tree ty_Slot a0.2.1), (.v (.int .i64 a0.2.2.1)), (.v (.int .i64 a0.2.2.2.1)), (.v (.int .i64 a0.2.2.2.2.1))]), (.agg [(.v (.int .i64 a1.1)), (.v (.int .i64 a1.2.1))])] (leHk h [])) : spec_l25Rope.S ar h (spec_l25Rope.res a0 a1 y) (spec_l25Rope.out a0 a1 y) := ⟨a0, a1, y, H, (args_ok h0).1, (args_ok h0).2, rfl, rfl⟩
theorem spec_l25Rope.spec (a0 a1 y) (H : spec_l25Rope a0 a1 = some y) : Spec Tryz.prog 196 [(.agg [(.v (.int .i64 a0.1)), (.tree ty_Slot a0.2.1), (.v (.int .i64 a0.2.2.1)), (.v (.int .i64 a0.2.2.2.1)), (.v (.int .i64 a0.2.2.2.2.1))]), (.agg [(.v (.int .i64 a1.1)), (.v (.int .i64 a1.2.1))])] [] (spec_l25Rope.res a0 a1 y) (spec_l25Rope.out a0 a1 y) := by
  refine spec_intro (G29_ok.at tok []) (ct := [(5, some [2, 3, 4, 6, 24, 25, 26, 27, 28, 29, 30, 31, 39, 40, 41]), (6, some [2, 3, 4, 6, 32, 39, 40, 41]), (10, some [2, 4, 6, 7, 70, 71, 72, 75, 76, 77, 78]), (12, some [2, 4, 6, 7, 8, 70, 71, 72, 75, 76, 77, 78]), (16, some [2, 3, 4, 6, 80, 93, 94, 95, 96, 97, 98, 101, 102, 103, 104, 105, 116, 117, 118, 119, 120, 121, 124, 125, 126, 127, 128, 129]), (18, some [2, 4, 6, 116, 117, 118, 119, 120, 121, 124, 125, 126, 127, 128, 129])]) Tryz.func196 rfl (by kernel_rfl) (by kernel_rfl) rfl ?_
  repeat' first
    | ((with_reducible refine eqg ?_); exact rfl)
    | ((with_reducible refine KOb.mk ?_); kernel_rfl)
    | ((with_reducible intro h); (repeat first | replace H := grd_k H | replace H := out_step H ‹_›); first | replace H := cond_t h H | replace H := cond_f h H | exact absurd h (by decide) | skip)
    | ((with_reducible refine Ob.mk ?_); first | (with_reducible rfl) | (first | ((repeat (first | (with_reducible exact grd_p H) | replace H := grd_k H | replace H := out_step H ‹_›)); done) | rfl | ((repeat (first | exact grd_p H | (have hp := grd_p H; exact hp) | replace H := grd_k H | replace H := out_step H ‹_› | (replace H := bind_some H; obtain ⟨_, _, H⟩ := H))); done) | (repeat (first | exact grd_p H | replace H := grd_k H | replace H := out_step H ‹_›))))
    | (with_reducible exact True.intro)
    | ((conv => whnf); first
        | (with_reducible refine And.intro ?_ ?_)
        | (with_reducible exact True.intro)
        | (with_reducible refine (?_ : Ob _))
        | ((with_reducible refine CallW.mk ?_); (repeat first | replace H := grd_k H | replace H := out_step H ‹_›); replace H := bind_some H; obtain ⟨y, hy, H⟩ := H; first | ((with_reducible have hz : spec_l25Own _ = some y := hy); clear hz; refine ⟨_, _, spec_l25Own.call hy ?_, rfl, rfl, ?_⟩) | ((with_reducible have hz : spec_l25Open _ = some y := hy); clear hz; refine ⟨_, _, spec_l25Open.call hy ?_, rfl, rfl, ?_⟩) | ((with_reducible have hz : spec_l25Find _ _ = some y := hy); clear hz; refine ⟨_, _, spec_l25Find.call hy ?_, rfl, rfl, ?_⟩))
        | ((repeat first | replace H := grd_k H | replace H := out_step H ‹_›); refine loop_iter (G29_ok.at tok []) (ct := [(5, some [2, 3, 4, 6, 24, 25, 26, 27, 28, 29, 30, 31, 39, 40, 41]), (6, some [2, 3, 4, 6, 32, 39, 40, 41]), (10, some [2, 4, 6, 7, 70, 71, 72, 75, 76, 77, 78]), (12, some [2, 4, 6, 7, 8, 70, 71, 72, 75, 76, 77, 78]), (16, some [2, 3, 4, 6, 80, 93, 94, 95, 96, 97, 98, 101, 102, 103, 104, 105, 116, 117, 118, 119, 120, 121, 124, 125, 126, 127, 128, 129]), (18, some [2, 4, 6, 116, 117, 118, 119, 120, 121, 124, 125, 126, 127, 128, 129])]) (F := (fun s1 : Int × Int × Int × Int × Int × (List Slot) => ⟨sl [(2, (.loc 0 0 0)), (4, (.loc 1 0 0)), (6, (.loc 2 0 0)), (7, (.v (.int .i64 (a0.2.1.length : Int)))), (8, (.v (.int .i64 s1.1)))], [some (.box 38 [(.v (.int .i64 a0.1)), (.tree ty_Slot a0.2.1), (.v (.int .i64 a0.2.2.1)), (.v (.int .i64 a0.2.2.2.1)), (.v (.int .i64 a0.2.2.2.2.1))]), some (.box 38 [(.v (.int .i64 (0 : Int))), (.v (.slice none 0 0)), (.v (.int .i64 (0 : Int))), (.v (.int .i64 (0 : Int))), (.v (.int .i64 (0 : Int)))]), some (.box 38 [(.v (.int .i64 s1.2.1)), (.own 3), (.v (.int .i64 s1.2.2.1)), (.v (.int .i64 s1.2.2.2.1)), (.v (.int .i64 s1.2.2.2.2.1))]), some (.arr 96 ty_Slot s1.2.2.2.2.2)]⟩)) (step := (fun s : Int × Int × Int × Int × Int × (List Slot) => spec_l25Rope_loop1 _ s.1 s.2.1 s.2.2.1 s.2.2.2.1 s.2.2.2.2.1 s.2.2.2.2.2)) _ H (by kernel_rfl) (sub_auto ?_) ?_; rotate_left; (intro s1 r v hr H); rotate_right)
        | ((repeat first | replace H := grd_k H | replace H := out_step H ‹_›); refine again_step H (by assumption) (sub_auto ?_))
        | ((with_reducible refine fin_mk ?_); (repeat first | replace H := grd_k H | replace H := out_step H ‹_›); have H := Option.some.inj H; subst H))
    | constructor
def G30 : Env := G29.add 196 [] spec_l25Rope.S
theorem G30_ok : EnvOk Tryz.prog G30 := G29_ok.add ent_196 fun ar h r h1 ⟨a0, a1, y, hy, e1, e2, e3, e4⟩ => by
  subst e3 e4; exact (spec_l25Rope.spec a0 a1 y hy).le e1 e2
attribute [local irreducible] spec_l25Rope

end Go.Proofs.YtaobinhdnklojaaGreatDoor
namespace Go.Proofs.YtaobinhdnklojaaGreatDoor
open Go.RowKit
set_option maxHeartbeats 100000000
set_option maxRecDepth 100000
attribute [local irreducible] Ob loopwp Sub Spec Fin Again CallW CutC KOb iter

attribute [local irreducible] spec_l25Own spec_l25Good spec_l1Num spec_l1Num_f spec_l25Step spec_l25Rope

noncomputable def spec_l25Station (a0 : Ropeway) (a1 : Int) : Option (Int) :=
  (grd ((2 : Int) ≠ 0) ((some (w64 (Int.tdiv (w64 (a1 * (a0.2.1.length : Int))) (2 : Int))))))
def spec_l25Station.res (_ : Ropeway) (_ : Int) (y : Int) : AV := (.v (.int .i64 y))
def spec_l25Station.out (_ : Ropeway) (_ : Int) (_ : Int) : List (Option LB) := []
def spec_l25Station.S (ar : List AV) (h : List (Option LB)) (r : AV) (h1 : List (Option LB)) : Prop := ∃ a0 a1 y, spec_l25Station a0 a1 = some y ∧ leL ar [(.agg [(.v (.int .i64 a0.1)), (.tree ty_Slot a0.2.1), (.v (.int .i64 a0.2.2.1)), (.v (.int .i64 a0.2.2.2.1)), (.v (.int .i64 a0.2.2.2.2.1))]), (.v (.int .i64 a1))] ∧ leH h [] ∧ r = spec_l25Station.res a0 a1 y ∧ h1 = spec_l25Station.out a0 a1 y
theorem spec_l25Station.call {ar h a0 a1 y} (H : spec_l25Station a0 a1 = some y) (h0 : leLk ar [(.agg [(.v (.int .i64 a0.1)), (.tree ty_Slot a0.2.1), (.v (.int .i64 a0.2.2.1)), (.v (.int .i64 a0.2.2.2.1)), (.v (.int .i64 a0.2.2.2.2.1))]), (.v (.int .i64 a1))] (leHk h [])) : spec_l25Station.S ar h (spec_l25Station.res a0 a1 y) (spec_l25Station.out a0 a1 y) := ⟨a0, a1, y, H, (args_ok h0).1, (args_ok h0).2, rfl, rfl⟩
theorem spec_l25Station.spec (a0 a1 y) (H : spec_l25Station a0 a1 = some y) : Spec Tryz.prog 153 [(.agg [(.v (.int .i64 a0.1)), (.tree ty_Slot a0.2.1), (.v (.int .i64 a0.2.2.1)), (.v (.int .i64 a0.2.2.2.1)), (.v (.int .i64 a0.2.2.2.2.1))]), (.v (.int .i64 a1))] [] (spec_l25Station.res a0 a1 y) (spec_l25Station.out a0 a1 y) := by
  refine spec_intro (G30_ok.at tok []) (ct := []) Tryz.func153 rfl (by kernel_rfl) (by kernel_rfl) rfl ?_
  repeat' first
    | ((with_reducible refine eqg ?_); exact rfl)
    | ((with_reducible refine KOb.mk ?_); kernel_rfl)
    | ((with_reducible intro h); (repeat first | replace H := grd_k H | replace H := out_step H ‹_›); first | replace H := cond_t h H | replace H := cond_f h H | exact absurd h (by decide) | skip)
    | ((with_reducible refine Ob.mk ?_); first | (with_reducible rfl) | (first | ((repeat (first | (with_reducible exact grd_p H) | replace H := grd_k H | replace H := out_step H ‹_›)); done) | rfl | ((repeat (first | exact grd_p H | (have hp := grd_p H; exact hp) | replace H := grd_k H | replace H := out_step H ‹_› | (replace H := bind_some H; obtain ⟨_, _, H⟩ := H))); done) | (repeat (first | exact grd_p H | replace H := grd_k H | replace H := out_step H ‹_›))))
    | (with_reducible exact True.intro)
    | ((conv => whnf); first
        | (with_reducible refine And.intro ?_ ?_)
        | (with_reducible exact True.intro)
        | (with_reducible refine (?_ : Ob _))
        | ((with_reducible refine fin_mk ?_); (repeat first | replace H := grd_k H | replace H := out_step H ‹_›); have H := Option.some.inj H; subst H))
    | constructor
def G31 : Env := G30.add 153 [] spec_l25Station.S
theorem G31_ok : EnvOk Tryz.prog G31 := G30_ok.add ent_153 fun ar h r h1 ⟨a0, a1, y, hy, e1, e2, e3, e4⟩ => by
  subst e3 e4; exact (spec_l25Station.spec a0 a1 y hy).le e1 e2
attribute [local irreducible] spec_l25Station

noncomputable def spec_l25People (a0 : Ropeway) (a1 : RopeStep) : Option (Ropeway × Bool) :=
  ((spec_l25Own (a0.1, a0.2.1, a0.2.2.1, a0.2.2.2.1, a0.2.2.2.2.1, ())).bind fun y1 => ((spec_l25Station (a0.1, a0.2.1, a0.2.2.1, a0.2.2.2.1, a0.2.2.2.2.1, ()) a1.2.1).bind fun y2 => (grd (0 ≤ y2 ∧ y2 < (a0.2.1.length : Int)) (cond (decide (a1.1 = (7 : Int))) (cond (decide ((0 : Int) < ((a0.2.1.getD y2.toNat d_Slot).1))) (grd (0 ≤ y2 ∧ y2 < (y1.2.1.length : Int)) ((some ((y1.1, (y1.2.1.set y2.toNat ((a0.2.1.getD y2.toNat d_Slot).1, (!((a0.2.1.getD y2.toNat d_Slot).2.1)), (a0.2.1.getD y2.toNat d_Slot).2.2.1, ())), y1.2.2.1, y1.2.2.2.1, y1.2.2.2.2.1, ()), (!decide (a0.1 = (2 : Int))))))) (grd (0 ≤ y2 ∧ y2 < (y1.2.1.length : Int)) ((some ((y1.1, (y1.2.1.set y2.toNat ((a0.2.1.getD y2.toNat d_Slot).1, (!((a0.2.1.getD y2.toNat d_Slot).2.1)), (a0.2.1.getD y2.toNat d_Slot).2.2.1, ())), y1.2.2.1, y1.2.2.2.1, y1.2.2.2.2.1, ()), false))))) (cond (decide (a1.1 = (5 : Int))) ((cond (decide ((0 : Int) < ((a0.2.1.getD y2.toNat d_Slot).1))) (cond ((a0.2.1.getD y2.toNat d_Slot).2.1) ((some (y2, (decide (((a0.2.1.getD y2.toNat d_Slot).2.2.1) < (8 : Int))), y1.1, y1.2.2.1, y1.2.2.2.1, y1.2.2.2.2.1, ((a0.2.1.getD y2.toNat d_Slot).1), ((a0.2.1.getD y2.toNat d_Slot).2.1), ((a0.2.1.getD y2.toNat d_Slot).2.2.1), y1.2.1))) ((some (y2, false, y1.1, y1.2.2.1, y1.2.2.2.1, y1.2.2.2.2.1, ((a0.2.1.getD y2.toNat d_Slot).1), ((a0.2.1.getD y2.toNat d_Slot).2.1), ((a0.2.1.getD y2.toNat d_Slot).2.2.1), y1.2.1)))) ((some (y2, false, y1.1, y1.2.2.1, y1.2.2.2.1, y1.2.2.2.2.1, ((a0.2.1.getD y2.toNat d_Slot).1), ((a0.2.1.getD y2.toNat d_Slot).2.1), ((a0.2.1.getD y2.toNat d_Slot).2.2.1), y1.2.1)))).bind fun z3 => (cond (decide (a1.2.1 = (0 : Int))) (cond z3.2.1 (cond (decide ((0 : Int) < a0.2.2.1)) (grd (0 ≤ z3.1 ∧ z3.1 < (z3.2.2.2.2.2.2.2.2.2.length : Int)) ((some ((z3.2.2.1, (z3.2.2.2.2.2.2.2.2.2.set z3.1.toNat (z3.2.2.2.2.2.2.1, z3.2.2.2.2.2.2.2.1, (w64 (z3.2.2.2.2.2.2.2.2.1 + (1 : Int))), ())), (w64 (a0.2.2.1 - (1 : Int))), z3.2.2.2.2.1, z3.2.2.2.2.2.1, ()), (!decide (a0.1 = (3 : Int))))))) (grd (0 ≤ z3.1 ∧ z3.1 < (z3.2.2.2.2.2.2.2.2.2.length : Int)) ((some ((z3.2.2.1, (z3.2.2.2.2.2.2.2.2.2.set z3.1.toNat (z3.2.2.2.2.2.2.1, z3.2.2.2.2.2.2.2.1, (w64 (z3.2.2.2.2.2.2.2.2.1 + (1 : Int))), ())), (w64 (a0.2.2.1 - (1 : Int))), z3.2.2.2.2.1, z3.2.2.2.2.2.1, ()), false))))) (grd (0 ≤ z3.1 ∧ z3.1 < (z3.2.2.2.2.2.2.2.2.2.length : Int)) ((some ((z3.2.2.1, (z3.2.2.2.2.2.2.2.2.2.set z3.1.toNat (z3.2.2.2.2.2.2.1, z3.2.2.2.2.2.2.2.1, (w64 (z3.2.2.2.2.2.2.2.2.1 + (1 : Int))), ())), (w64 (a0.2.2.1 - (1 : Int))), z3.2.2.2.2.1, z3.2.2.2.2.2.1, ()), false))))) (cond z3.2.1 (grd (0 ≤ z3.1 ∧ z3.1 < (z3.2.2.2.2.2.2.2.2.2.length : Int)) ((some ((z3.2.2.1, (z3.2.2.2.2.2.2.2.2.2.set z3.1.toNat (z3.2.2.2.2.2.2.1, z3.2.2.2.2.2.2.2.1, (w64 (z3.2.2.2.2.2.2.2.2.1 + (1 : Int))), ())), z3.2.2.2.1, (w64 (a0.2.2.2.1 - (1 : Int))), z3.2.2.2.2.2.1, ()), (decide ((0 : Int) < a0.2.2.2.1)))))) (grd (0 ≤ z3.1 ∧ z3.1 < (z3.2.2.2.2.2.2.2.2.2.length : Int)) ((some ((z3.2.2.1, (z3.2.2.2.2.2.2.2.2.2.set z3.1.toNat (z3.2.2.2.2.2.2.1, z3.2.2.2.2.2.2.2.1, (w64 (z3.2.2.2.2.2.2.2.2.1 + (1 : Int))), ())), z3.2.2.2.1, (w64 (a0.2.2.2.1 - (1 : Int))), z3.2.2.2.2.2.1, ()), false))))))) (cond (decide ((0 : Int) < ((a0.2.1.getD y2.toNat d_Slot).1))) (cond ((a0.2.1.getD y2.toNat d_Slot).2.1) (cond (decide (a1.2.1 = (0 : Int))) (grd (0 ≤ y2 ∧ y2 < (y1.2.1.length : Int)) ((some ((y1.1, (y1.2.1.set y2.toNat ((a0.2.1.getD y2.toNat d_Slot).1, (a0.2.1.getD y2.toNat d_Slot).2.1, (w64 (((a0.2.1.getD y2.toNat d_Slot).2.2.1) - (1 : Int))), ())), y1.2.2.1, y1.2.2.2.1, (w64 (a0.2.2.2.2.1 + (1 : Int))), ()), (decide ((0 : Int) < ((a0.2.1.getD y2.toNat d_Slot).2.2.1))))))) (grd (0 ≤ y2 ∧ y2 < (y1.2.1.length : Int)) ((some ((y1.1, (y1.2.1.set y2.toNat ((a0.2.1.getD y2.toNat d_Slot).1, (a0.2.1.getD y2.toNat d_Slot).2.1, (w64 (((a0.2.1.getD y2.toNat d_Slot).2.2.1) - (1 : Int))), ())), y1.2.2.1, (w64 (a0.2.2.2.1 + (1 : Int))), y1.2.2.2.2.1, ()), (decide ((0 : Int) < ((a0.2.1.getD y2.toNat d_Slot).2.2.1)))))))) (cond (decide (a1.2.1 = (0 : Int))) (grd (0 ≤ y2 ∧ y2 < (y1.2.1.length : Int)) ((some ((y1.1, (y1.2.1.set y2.toNat ((a0.2.1.getD y2.toNat d_Slot).1, (a0.2.1.getD y2.toNat d_Slot).2.1, (w64 (((a0.2.1.getD y2.toNat d_Slot).2.2.1) - (1 : Int))), ())), y1.2.2.1, y1.2.2.2.1, (w64 (a0.2.2.2.2.1 + (1 : Int))), ()), false)))) (grd (0 ≤ y2 ∧ y2 < (y1.2.1.length : Int)) ((some ((y1.1, (y1.2.1.set y2.toNat ((a0.2.1.getD y2.toNat d_Slot).1, (a0.2.1.getD y2.toNat d_Slot).2.1, (w64 (((a0.2.1.getD y2.toNat d_Slot).2.2.1) - (1 : Int))), ())), y1.2.2.1, (w64 (a0.2.2.2.1 + (1 : Int))), y1.2.2.2.2.1, ()), false)))))) (cond (decide (a1.2.1 = (0 : Int))) (grd (0 ≤ y2 ∧ y2 < (y1.2.1.length : Int)) ((some ((y1.1, (y1.2.1.set y2.toNat ((a0.2.1.getD y2.toNat d_Slot).1, (a0.2.1.getD y2.toNat d_Slot).2.1, (w64 (((a0.2.1.getD y2.toNat d_Slot).2.2.1) - (1 : Int))), ())), y1.2.2.1, y1.2.2.2.1, (w64 (a0.2.2.2.2.1 + (1 : Int))), ()), false)))) (grd (0 ≤ y2 ∧ y2 < (y1.2.1.length : Int)) ((some ((y1.1, (y1.2.1.set y2.toNat ((a0.2.1.getD y2.toNat d_Slot).1, (a0.2.1.getD y2.toNat d_Slot).2.1, (w64 (((a0.2.1.getD y2.toNat d_Slot).2.2.1) - (1 : Int))), ())), y1.2.2.1, (w64 (a0.2.2.2.1 + (1 : Int))), y1.2.2.2.2.1, ()), false)))))))))))
def spec_l25People.res (_ : Ropeway) (_ : RopeStep) (y : Ropeway × Bool) : AV := (.tup [(.agg [(.v (.int .i64 y.1.1)), (.own 0), (.v (.int .i64 y.1.2.2.1)), (.v (.int .i64 y.1.2.2.2.1)), (.v (.int .i64 y.1.2.2.2.2.1))]), (.bl y.2)])
def spec_l25People.out (_ : Ropeway) (_ : RopeStep) (y : Ropeway × Bool) : List (Option LB) := [some (.arr 96 ty_Slot y.1.2.1)]
def spec_l25People.S (ar : List AV) (h : List (Option LB)) (r : AV) (h1 : List (Option LB)) : Prop := ∃ a0 a1 y, spec_l25People a0 a1 = some y ∧ leL ar [(.agg [(.v (.int .i64 a0.1)), (.tree ty_Slot a0.2.1), (.v (.int .i64 a0.2.2.1)), (.v (.int .i64 a0.2.2.2.1)), (.v (.int .i64 a0.2.2.2.2.1))]), (.agg [(.v (.int .i64 a1.1)), (.v (.int .i64 a1.2.1))])] ∧ leH h [] ∧ r = spec_l25People.res a0 a1 y ∧ h1 = spec_l25People.out a0 a1 y
theorem spec_l25People.call {ar h a0 a1 y} (H : spec_l25People a0 a1 = some y) (h0 : leLk ar [(.agg [(.v (.int .i64 a0.1)), (.tree ty_Slot a0.2.1), (.v (.int .i64 a0.2.2.1)), (.v (.int .i64 a0.2.2.2.1)), (.v (.int .i64 a0.2.2.2.2.1))]), (.agg [(.v (.int .i64 a1.1)), (.v (.int .i64 a1.2.1))])] (leHk h [])) : spec_l25People.S ar h (spec_l25People.res a0 a1 y) (spec_l25People.out a0 a1 y) := ⟨a0, a1, y, H, (args_ok h0).1, (args_ok h0).2, rfl, rfl⟩
theorem spec_l25People.spec (a0 a1 y) (H : spec_l25People a0 a1 = some y) : Spec Tryz.prog 197 [(.agg [(.v (.int .i64 a0.1)), (.tree ty_Slot a0.2.1), (.v (.int .i64 a0.2.2.1)), (.v (.int .i64 a0.2.2.2.1)), (.v (.int .i64 a0.2.2.2.2.1))]), (.agg [(.v (.int .i64 a1.1)), (.v (.int .i64 a1.2.1))])] [] (spec_l25People.res a0 a1 y) (spec_l25People.out a0 a1 y) := by
  refine spec_intro (G31_ok.at tok []) (ct := [(16, none), (4, some [2, 3, 4, 6, 7, 8, 28, 29, 32, 33, 34, 59, 60, 61, 67, 68, 71, 72, 73, 84, 85, 86, 89, 90, 91, 99, 100, 101]), (7, some [2, 3, 4, 6, 7, 8, 9]), (19, some [2, 4, 6, 7, 8, 9]), (21, some [2, 4, 6, 7, 8, 9]), (22, some [4, 6, 7, 8, 9])]) Tryz.func197 rfl (by kernel_rfl) (by kernel_rfl) rfl ?_
  repeat' first
    | ((with_reducible refine eqg ?_); exact rfl)
    | ((with_reducible refine KOb.mk ?_); kernel_rfl)
    | ((with_reducible intro h); (repeat first | replace H := grd_k H | replace H := out_step H ‹_›); first | replace H := cond_t h H | replace H := cond_f h H | exact absurd h (by decide) | skip)
    | ((with_reducible refine Ob.mk ?_); first | (with_reducible rfl) | (first | ((repeat (first | (with_reducible exact grd_p H) | replace H := grd_k H | replace H := out_step H ‹_›)); done) | rfl | ((repeat (first | exact grd_p H | (have hp := grd_p H; exact hp) | replace H := grd_k H | replace H := out_step H ‹_› | (replace H := bind_some H; obtain ⟨_, _, H⟩ := H))); done) | (repeat (first | exact grd_p H | replace H := grd_k H | replace H := out_step H ‹_›))))
    | (with_reducible exact True.intro)
    | ((conv => whnf); first
        | (with_reducible refine And.intro ?_ ?_)
        | (with_reducible exact True.intro)
        | (with_reducible refine (?_ : Ob _))
        | ((with_reducible refine CallW.mk ?_); (repeat first | replace H := grd_k H | replace H := out_step H ‹_›); replace H := bind_some H; obtain ⟨y, hy, H⟩ := H; first | ((with_reducible have hz : spec_l25Own _ = some y := hy); clear hz; refine ⟨_, _, spec_l25Own.call hy ?_, rfl, rfl, ?_⟩) | ((with_reducible have hz : spec_l25Station _ _ = some y := hy); clear hz; refine ⟨_, _, spec_l25Station.call hy ?_, rfl, rfl, ?_⟩))
        | ((with_reducible refine cutAt (id := 16) ?_); (repeat first | replace H := grd_k H | replace H := out_step H ‹_›); first | (replace H := bind_some H; obtain ⟨z, hz, H⟩ := H; refine CutC.mk (id := 16) ⟨sl [(2, (.loc 0 0 0)), (3, (.loc 1 0 0)), (4, (.loc 2 0 0)), (6, (.loc 3 0 0)), (7, (.v (.int .i64 z.1))), (8, (.loc 4 0 0)), (9, (.bl z.2.1))], [some (.box 38 [(.v (.int .i64 a0.1)), (.tree ty_Slot a0.2.1), (.v (.int .i64 a0.2.2.1)), (.v (.int .i64 a0.2.2.2.1)), (.v (.int .i64 a0.2.2.2.2.1))]), some (.box 120 [(.v (.int .i64 a1.1)), (.v (.int .i64 a1.2.1))]), some (.box 38 [(.v (.int .i64 (0 : Int))), (.v (.slice none 0 0)), (.v (.int .i64 (0 : Int))), (.v (.int .i64 (0 : Int))), (.v (.int .i64 (0 : Int)))]), some (.box 38 [(.v (.int .i64 z.2.2.1)), (.own 5), (.v (.int .i64 z.2.2.2.1)), (.v (.int .i64 z.2.2.2.2.1)), (.v (.int .i64 z.2.2.2.2.2.1))]), some (.box 96 [(.v (.int .i64 z.2.2.2.2.2.2.1)), (.bl z.2.2.2.2.2.2.2.1), (.v (.int .i64 z.2.2.2.2.2.2.2.2.1))]), some (.arr 96 ty_Slot z.2.2.2.2.2.2.2.2.2)]⟩ ?_ ?_; (replace H := hz)))
        | ((repeat first | replace H := grd_k H | replace H := out_step H ‹_›); have H := Option.some.inj H; subst H; with_reducible refine sub_auto ?_)
        | ((with_reducible refine fin_mk ?_); (repeat first | replace H := grd_k H | replace H := out_step H ‹_›); have H := Option.some.inj H; subst H))
    | constructor
def G32 : Env := G31.add 197 [] spec_l25People.S
theorem G32_ok : EnvOk Tryz.prog G32 := G31_ok.add ent_197 fun ar h r h1 ⟨a0, a1, y, hy, e1, e2, e3, e4⟩ => by
  subst e3 e4; exact (spec_l25People.spec a0 a1 y hy).le e1 e2
attribute [local irreducible] spec_l25People

noncomputable def spec_l25Make (a0 : Ropeway) (a1 : RopeStep) : Option (Ropeway × Bool) :=
  ((cond (decide (a1.1 ≤ (4 : Int))) ((spec_l25Rope (a0.1, a0.2.1, a0.2.2.1, a0.2.2.2.1, a0.2.2.2.2.1, ()) (a1.1, a1.2.1, ())).bind fun y1 => (some (y1.2, y1.1.1, y1.1.2.2.1, y1.1.2.2.2.1, y1.1.2.2.2.2.1, y1.1.2.1))) ((spec_l25People (a0.1, a0.2.1, a0.2.2.1, a0.2.2.2.1, a0.2.2.2.2.1, ()) (a1.1, a1.2.1, ())).bind fun y2 => (some (y2.2, y2.1.1, y2.1.2.2.1, y2.1.2.2.2.1, y2.1.2.2.2.2.1, y2.1.2.1)))).bind fun z3 => (cond z3.1 ((spec_l25Good (z3.2.1, z3.2.2.2.2.2, z3.2.2.1, z3.2.2.2.1, z3.2.2.2.2.1, ())).bind fun y4 => (some ((z3.2.1, z3.2.2.2.2.2, z3.2.2.1, z3.2.2.2.1, z3.2.2.2.2.1, ()), y4))) ((some ((z3.2.1, z3.2.2.2.2.2, z3.2.2.1, z3.2.2.2.1, z3.2.2.2.2.1, ()), false)))))
def spec_l25Make.res (_ : Ropeway) (_ : RopeStep) (y : Ropeway × Bool) : AV := (.tup [(.agg [(.v (.int .i64 y.1.1)), (.own 0), (.v (.int .i64 y.1.2.2.1)), (.v (.int .i64 y.1.2.2.2.1)), (.v (.int .i64 y.1.2.2.2.2.1))]), (.bl y.2)])
def spec_l25Make.out (_ : Ropeway) (_ : RopeStep) (y : Ropeway × Bool) : List (Option LB) := [some (.arr 96 ty_Slot y.1.2.1)]
def spec_l25Make.S (ar : List AV) (h : List (Option LB)) (r : AV) (h1 : List (Option LB)) : Prop := ∃ a0 a1 y, spec_l25Make a0 a1 = some y ∧ leL ar [(.agg [(.v (.int .i64 a0.1)), (.tree ty_Slot a0.2.1), (.v (.int .i64 a0.2.2.1)), (.v (.int .i64 a0.2.2.2.1)), (.v (.int .i64 a0.2.2.2.2.1))]), (.agg [(.v (.int .i64 a1.1)), (.v (.int .i64 a1.2.1))])] ∧ leH h [] ∧ r = spec_l25Make.res a0 a1 y ∧ h1 = spec_l25Make.out a0 a1 y
theorem spec_l25Make.call {ar h a0 a1 y} (H : spec_l25Make a0 a1 = some y) (h0 : leLk ar [(.agg [(.v (.int .i64 a0.1)), (.tree ty_Slot a0.2.1), (.v (.int .i64 a0.2.2.1)), (.v (.int .i64 a0.2.2.2.1)), (.v (.int .i64 a0.2.2.2.2.1))]), (.agg [(.v (.int .i64 a1.1)), (.v (.int .i64 a1.2.1))])] (leHk h [])) : spec_l25Make.S ar h (spec_l25Make.res a0 a1 y) (spec_l25Make.out a0 a1 y) := ⟨a0, a1, y, H, (args_ok h0).1, (args_ok h0).2, rfl, rfl⟩
theorem spec_l25Make.spec (a0 a1 y) (H : spec_l25Make a0 a1 = some y) : Spec Tryz.prog 171 [(.agg [(.v (.int .i64 a0.1)), (.tree ty_Slot a0.2.1), (.v (.int .i64 a0.2.2.1)), (.v (.int .i64 a0.2.2.2.1)), (.v (.int .i64 a0.2.2.2.2.1))]), (.agg [(.v (.int .i64 a1.1)), (.v (.int .i64 a1.2.1))])] [] (spec_l25Make.res a0 a1 y) (spec_l25Make.out a0 a1 y) := by
  refine spec_intro (G32_ok.at tok []) (ct := [(5, none)]) Tryz.func171 rfl (by kernel_rfl) (by kernel_rfl) rfl ?_
  repeat' first
    | ((with_reducible refine eqg ?_); exact rfl)
    | ((with_reducible refine KOb.mk ?_); kernel_rfl)
    | ((with_reducible intro h); (repeat first | replace H := grd_k H | replace H := out_step H ‹_›); first | replace H := cond_t h H | replace H := cond_f h H | exact absurd h (by decide) | skip)
    | ((with_reducible refine Ob.mk ?_); first | (with_reducible rfl) | (first | ((repeat (first | (with_reducible exact grd_p H) | replace H := grd_k H | replace H := out_step H ‹_›)); done) | rfl | ((repeat (first | exact grd_p H | (have hp := grd_p H; exact hp) | replace H := grd_k H | replace H := out_step H ‹_› | (replace H := bind_some H; obtain ⟨_, _, H⟩ := H))); done) | (repeat (first | exact grd_p H | replace H := grd_k H | replace H := out_step H ‹_›))))
    | (with_reducible exact True.intro)
    | ((conv => whnf); first
        | (with_reducible refine And.intro ?_ ?_)
        | (with_reducible exact True.intro)
        | (with_reducible refine (?_ : Ob _))
        | ((with_reducible refine CallW.mk ?_); (repeat first | replace H := grd_k H | replace H := out_step H ‹_›); replace H := bind_some H; obtain ⟨y, hy, H⟩ := H; first | ((with_reducible have hz : spec_l25Rope _ _ = some y := hy); clear hz; refine ⟨_, _, spec_l25Rope.call hy ?_, rfl, rfl, ?_⟩) | ((with_reducible have hz : spec_l25People _ _ = some y := hy); clear hz; refine ⟨_, _, spec_l25People.call hy ?_, rfl, rfl, ?_⟩) | ((with_reducible have hz : spec_l25Good _ = some y := hy); clear hz; refine ⟨_, _, spec_l25Good.call hy ?_, rfl, rfl, ?_⟩))
        | ((with_reducible refine cutAt (id := 5) ?_); (repeat first | replace H := grd_k H | replace H := out_step H ‹_›); first | (replace H := bind_some H; obtain ⟨z, hz, H⟩ := H; refine CutC.mk (id := 5) ⟨sl [(4, (.loc 0 0 0)), (6, (.loc 1 0 0)), (7, (.bl z.1))], [some (.box 38 [(.v (.int .i64 (0 : Int))), (.v (.slice none 0 0)), (.v (.int .i64 (0 : Int))), (.v (.int .i64 (0 : Int))), (.v (.int .i64 (0 : Int)))]), some (.box 38 [(.v (.int .i64 z.2.1)), (.own 2), (.v (.int .i64 z.2.2.1)), (.v (.int .i64 z.2.2.2.1)), (.v (.int .i64 z.2.2.2.2.1))]), some (.arr 96 ty_Slot z.2.2.2.2.2)]⟩ ?_ ?_; (replace H := hz)))
        | ((repeat first | replace H := grd_k H | replace H := out_step H ‹_›); have H := Option.some.inj H; subst H; with_reducible refine sub_auto ?_)
        | ((with_reducible refine fin_mk ?_); (repeat first | replace H := grd_k H | replace H := out_step H ‹_›); have H := Option.some.inj H; subst H))
    | constructor
def G33 : Env := G32.add 171 [] spec_l25Make.S
theorem G33_ok : EnvOk Tryz.prog G33 := G32_ok.add ent_171 fun ar h r h1 ⟨a0, a1, y, hy, e1, e2, e3, e4⟩ => by
  subst e3 e4; exact (spec_l25Make.spec a0 a1 y hy).le e1 e2
attribute [local irreducible] spec_l25Make

noncomputable def spec_StepRopeway (a0 : Ropeway) (a1 : RopeStep) : Option ((Ropeway) ⊕ (Ropeway)) :=
  ((spec_l25Good (a0.1, a0.2.1, a0.2.2.1, a0.2.2.2.1, a0.2.2.2.2.1, ())).bind fun y1 => (cond (!y1) ((some (Sum.inl ((0 : Int), [], (0 : Int), (0 : Int), (0 : Int), ())))) ((spec_l25Step (a1.1, a1.2.1, ())).bind fun y2 => (cond (!y2) ((some (Sum.inl ((0 : Int), [], (0 : Int), (0 : Int), (0 : Int), ())))) ((spec_l25Make (a0.1, a0.2.1, a0.2.2.1, a0.2.2.2.1, a0.2.2.2.2.1, ()) (a1.1, a1.2.1, ())).bind fun y3 => (cond (!y3.2) ((some (Sum.inl ((0 : Int), [], (0 : Int), (0 : Int), (0 : Int), ())))) ((some (Sum.inr (y3.1.1, y3.1.2.1, y3.1.2.2.1, y3.1.2.2.2.1, y3.1.2.2.2.2.1, ()))))))))))
def spec_StepRopeway.res (_ : Ropeway) (_ : RopeStep) (y : (Ropeway) ⊕ (Ropeway)) : AV := match y with
  | (.inl y) => (.tup [(.agg [(.v (.int .i64 y.1)), (.v (.slice none 0 0)), (.v (.int .i64 y.2.2.1)), (.v (.int .i64 y.2.2.2.1)), (.v (.int .i64 y.2.2.2.2.1))]), (.v (.bool false))])
  | (.inr y) => (.tup [(.agg [(.v (.int .i64 y.1)), (.own 0), (.v (.int .i64 y.2.2.1)), (.v (.int .i64 y.2.2.2.1)), (.v (.int .i64 y.2.2.2.2.1))]), (.v (.bool true))])
def spec_StepRopeway.out (_ : Ropeway) (_ : RopeStep) (y : (Ropeway) ⊕ (Ropeway)) : List (Option LB) := match y with
  | (.inl _) => []
  | (.inr y) => [some (.arr 96 ty_Slot y.2.1)]
def spec_StepRopeway.S (ar : List AV) (h : List (Option LB)) (r : AV) (h1 : List (Option LB)) : Prop := ∃ a0 a1 y, spec_StepRopeway a0 a1 = some y ∧ leL ar [(.agg [(.v (.int .i64 a0.1)), (.tree ty_Slot a0.2.1), (.v (.int .i64 a0.2.2.1)), (.v (.int .i64 a0.2.2.2.1)), (.v (.int .i64 a0.2.2.2.2.1))]), (.agg [(.v (.int .i64 a1.1)), (.v (.int .i64 a1.2.1))])] ∧ leH h [] ∧ r = spec_StepRopeway.res a0 a1 y ∧ h1 = spec_StepRopeway.out a0 a1 y
theorem spec_StepRopeway.call {ar h a0 a1 y} (H : spec_StepRopeway a0 a1 = some y) (h0 : leLk ar [(.agg [(.v (.int .i64 a0.1)), (.tree ty_Slot a0.2.1), (.v (.int .i64 a0.2.2.1)), (.v (.int .i64 a0.2.2.2.1)), (.v (.int .i64 a0.2.2.2.2.1))]), (.agg [(.v (.int .i64 a1.1)), (.v (.int .i64 a1.2.1))])] (leHk h [])) : spec_StepRopeway.S ar h (spec_StepRopeway.res a0 a1 y) (spec_StepRopeway.out a0 a1 y) := ⟨a0, a1, y, H, (args_ok h0).1, (args_ok h0).2, rfl, rfl⟩
theorem spec_StepRopeway.spec (a0 a1 y) (H : spec_StepRopeway a0 a1 = some y) : Spec Tryz.prog 143 [(.agg [(.v (.int .i64 a0.1)), (.tree ty_Slot a0.2.1), (.v (.int .i64 a0.2.2.1)), (.v (.int .i64 a0.2.2.2.1)), (.v (.int .i64 a0.2.2.2.2.1))]), (.agg [(.v (.int .i64 a1.1)), (.v (.int .i64 a1.2.1))])] [] (spec_StepRopeway.res a0 a1 y) (spec_StepRopeway.out a0 a1 y) := by
  have hlen : Nat.ble ([] : List (Option LB)).length (spec_StepRopeway.out a0 a1 y).length = true := by
    rcases y with y | y <;> rfl
  refine spec_intro (G33_ok.at tok []) (ct := [(3, some [2, 3, 4])]) Tryz.func143 rfl (by kernel_rfl) (by kernel_rfl) hlen ?_
  repeat' first
    | ((with_reducible refine eqg ?_); exact rfl)
    | ((with_reducible refine KOb.mk ?_); kernel_rfl)
    | ((with_reducible intro h); (repeat first | replace H := grd_k H | replace H := out_step H ‹_›); first | replace H := cond_t h H | replace H := cond_f h H | exact absurd h (by decide) | skip)
    | ((with_reducible refine Ob.mk ?_); first | (with_reducible rfl) | (first | ((repeat (first | (with_reducible exact grd_p H) | replace H := grd_k H | replace H := out_step H ‹_›)); done) | rfl | ((repeat (first | exact grd_p H | (have hp := grd_p H; exact hp) | replace H := grd_k H | replace H := out_step H ‹_› | (replace H := bind_some H; obtain ⟨_, _, H⟩ := H))); done) | (repeat (first | exact grd_p H | replace H := grd_k H | replace H := out_step H ‹_›))))
    | (with_reducible exact True.intro)
    | ((conv => whnf); first
        | (with_reducible refine And.intro ?_ ?_)
        | (with_reducible exact True.intro)
        | (with_reducible refine (?_ : Ob _))
        | ((with_reducible refine CallW.mk ?_); (repeat first | replace H := grd_k H | replace H := out_step H ‹_›); replace H := bind_some H; obtain ⟨y, hy, H⟩ := H; first | ((with_reducible have hz : spec_l25Good _ = some y := hy); clear hz; refine ⟨_, _, spec_l25Good.call hy ?_, rfl, rfl, ?_⟩) | ((with_reducible have hz : spec_l25Step _ = some y := hy); clear hz; refine ⟨_, _, spec_l25Step.call hy ?_, rfl, rfl, ?_⟩) | ((with_reducible have hz : spec_l25Make _ _ = some y := hy); clear hz; refine ⟨_, _, spec_l25Make.call hy ?_, rfl, rfl, ?_⟩))
        | ((with_reducible refine fin_mk ?_); (repeat first | replace H := grd_k H | replace H := out_step H ‹_›); have H := Option.some.inj H; subst H))
    | constructor
def G34 : Env := G33.add 143 [] spec_StepRopeway.S
theorem G34_ok : EnvOk Tryz.prog G34 := G33_ok.add ent_143 fun ar h r h1 ⟨a0, a1, y, hy, e1, e2, e3, e4⟩ => by
  subst e3 e4; exact (spec_StepRopeway.spec a0 a1 y hy).le e1 e2
attribute [local irreducible] spec_StepRopeway

noncomputable def spec_l28List_loop1 (a0 : (List Int)) (v7 : ByteArray) (v8 : Int) : Option (Lp (ByteArray × Int) ((ByteArray))) :=
  (cond (decide (v8 < (a0.length : Int))) (grd (v7.size + (ByteArray.mk #[32]).size ≤ 9223372036854775807) (grd (0 ≤ v8 ∧ v8 < (a0.length : Int)) ((spec_l1Num (a0.getD v8.toNat 0)).bind fun y9 => (grd ((v7 ++ (ByteArray.mk #[32])).size + y9.size ≤ 9223372036854775807) (some (.go (((v7 ++ (ByteArray.mk #[32])) ++ y9), (w64 (v8 + (1 : Int)))))))))) ((some (.out v7))))
noncomputable def spec_l28List (a0 : (List Int)) (a1 : Bool) : Option (ByteArray) :=
  (cond (!a1) ((some (ByteArray.mk #[63]))) (cond (decide ((a0.length : Int) = (0 : Int))) ((some (ByteArray.mk #[110, 111, 110, 101]))) (grd (0 ≤ (0 : Int) ∧ (0 : Int) < (a0.length : Int)) ((spec_l1Num (a0.getD ((0 : Int).toNat) 0)).bind fun y1 => ((iter (fun s => spec_l28List_loop1 a0 s.1 s.2) (y1, (1 : Int))).bind (fun r10 => (some r10)))))))
def spec_l28List.res (_ : (List Int)) (_ : Bool) (y : ByteArray) : AV := (.v (.string y))
def spec_l28List.out (_ : (List Int)) (_ : Bool) (_ : ByteArray) : List (Option LB) := []
def spec_l28List.S (ar : List AV) (h : List (Option LB)) (r : AV) (h1 : List (Option LB)) : Prop := ∃ a0 a1 y, spec_l28List a0 a1 = some y ∧ leL ar [(.tree (.int .i64) a0), (.bl a1)] ∧ leH h [] ∧ r = spec_l28List.res a0 a1 y ∧ h1 = spec_l28List.out a0 a1 y
theorem spec_l28List.call {ar h a0 a1 y} (H : spec_l28List a0 a1 = some y) (h0 : leLk ar [(.tree (.int .i64) a0), (.bl a1)] (leHk h [])) : spec_l28List.S ar h (spec_l28List.res a0 a1 y) (spec_l28List.out a0 a1 y) := ⟨a0, a1, y, H, (args_ok h0).1, (args_ok h0).2, rfl, rfl⟩
theorem spec_l28List.spec (a0 a1 y) (H : spec_l28List a0 a1 = some y) : Spec Tryz.prog 116 [(.tree (.int .i64) a0), (.bl a1)] [] (spec_l28List.res a0 a1 y) (spec_l28List.out a0 a1 y) := by
  refine spec_intro (G34_ok.at tok []) (ct := [(7, some [0, 5, 6])]) Tryz.func116 rfl (by kernel_rfl) (by kernel_rfl) rfl ?_
  repeat' first
    | ((with_reducible refine eqg ?_); exact rfl)
    | ((with_reducible refine KOb.mk ?_); kernel_rfl)
    | ((with_reducible intro h); (repeat first | replace H := grd_k H | replace H := out_step H ‹_›); first | replace H := cond_t h H | replace H := cond_f h H | exact absurd h (by decide) | skip)
    | ((with_reducible refine Ob.mk ?_); first | (with_reducible rfl) | (first | ((repeat (first | (with_reducible exact grd_p H) | replace H := grd_k H | replace H := out_step H ‹_›)); done) | rfl | ((repeat (first | exact grd_p H | (have hp := grd_p H; exact hp) | replace H := grd_k H | replace H := out_step H ‹_› | (replace H := bind_some H; obtain ⟨_, _, H⟩ := H))); done) | (repeat (first | exact grd_p H | replace H := grd_k H | replace H := out_step H ‹_›))))
    | (with_reducible exact True.intro)
    | ((conv => whnf); first
        | (with_reducible refine And.intro ?_ ?_)
        | (with_reducible exact True.intro)
        | (with_reducible refine (?_ : Ob _))
        | ((with_reducible refine CallW.mk ?_); (repeat first | replace H := grd_k H | replace H := out_step H ‹_›); replace H := bind_some H; obtain ⟨y, hy, H⟩ := H; first | ((with_reducible have hz : spec_l1Num _ = some y := hy); clear hz; refine ⟨_, _, spec_l1Num.call hy ?_, rfl, rfl, ?_⟩))
        | ((repeat first | replace H := grd_k H | replace H := out_step H ‹_›); refine loop_iter (G34_ok.at tok []) (ct := [(7, some [0, 5, 6])]) (F := (fun s1 : ByteArray × Int => ⟨sl [(0, (.tree (.int .i64) a0)), (5, (.v (.string s1.1))), (6, (.v (.int .i64 s1.2)))], []⟩)) (step := (fun s : ByteArray × Int => spec_l28List_loop1 _ s.1 s.2)) _ H (by kernel_rfl) (sub_auto ?_) ?_; rotate_left; (intro s1 r v hr H); rotate_right)
        | ((repeat first | replace H := grd_k H | replace H := out_step H ‹_›); refine again_step H (by assumption) (sub_auto ?_))
        | ((with_reducible refine fin_mk ?_); (repeat first | replace H := grd_k H | replace H := out_step H ‹_›); have H := Option.some.inj H; subst H))
    | constructor
def G35 : Env := G34.add 116 [] spec_l28List.S
theorem G35_ok : EnvOk Tryz.prog G35 := G34_ok.add ent_116 fun ar h r h1 ⟨a0, a1, y, hy, e1, e2, e3, e4⟩ => by
  subst e3 e4; exact (spec_l28List.spec a0 a1 y hy).le e1 e2
attribute [local irreducible] spec_l28List

noncomputable def spec_l28Cabins_loop1 (a0 : Ropeway) (v3 : Int) (v4 : (List Int)) : Option (Lp (Int × (List Int)) (((List Int)))) :=
  (cond (decide (v3 < (a0.2.1.length : Int))) (grd (0 ≤ v3 ∧ v3 < (a0.2.1.length : Int)) (grd (v4.length + [(a0.2.1.getD v3.toNat d_Slot).1].length ≤ 140737488355328 / 8 ∧ v4.length + [(a0.2.1.getD v3.toNat d_Slot).1].length ≤ 140737488355328) (some (.go ((w64 (v3 + (1 : Int))), (v4 ++ [(a0.2.1.getD v3.toNat d_Slot).1])))))) ((some (.out v4))))
noncomputable def spec_l28Cabins (a0 : Ropeway) : Option (ByteArray) :=
  ((iter (fun s => spec_l28Cabins_loop1 a0 s.1 s.2) ((0 : Int), ([] : List Int))).bind (fun r5 => ((spec_l28List r5 true).bind fun y6 => (some y6))))
def spec_l28Cabins.res (_ : Ropeway) (y : ByteArray) : AV := (.v (.string y))
def spec_l28Cabins.out (_ : Ropeway) (_ : ByteArray) : List (Option LB) := []
def spec_l28Cabins.S (ar : List AV) (h : List (Option LB)) (r : AV) (h1 : List (Option LB)) : Prop := ∃ a0 y, spec_l28Cabins a0 = some y ∧ leL ar [(.agg [(.v (.int .i64 a0.1)), (.tree ty_Slot a0.2.1), (.v (.int .i64 a0.2.2.1)), (.v (.int .i64 a0.2.2.2.1)), (.v (.int .i64 a0.2.2.2.2.1))])] ∧ leH h [] ∧ r = spec_l28Cabins.res a0 y ∧ h1 = spec_l28Cabins.out a0 y
theorem spec_l28Cabins.call {ar h a0 y} (H : spec_l28Cabins a0 = some y) (h0 : leLk ar [(.agg [(.v (.int .i64 a0.1)), (.tree ty_Slot a0.2.1), (.v (.int .i64 a0.2.2.1)), (.v (.int .i64 a0.2.2.2.1)), (.v (.int .i64 a0.2.2.2.2.1))])] (leHk h [])) : spec_l28Cabins.S ar h (spec_l28Cabins.res a0 y) (spec_l28Cabins.out a0 y) := ⟨a0, y, H, (args_ok h0).1, (args_ok h0).2, rfl, rfl⟩
theorem spec_l28Cabins.spec (a0 y) (H : spec_l28Cabins a0 = some y) : Spec Tryz.prog 152 [(.agg [(.v (.int .i64 a0.1)), (.tree ty_Slot a0.2.1), (.v (.int .i64 a0.2.2.1)), (.v (.int .i64 a0.2.2.2.1)), (.v (.int .i64 a0.2.2.2.2.1))])] [] (spec_l28Cabins.res a0 y) (spec_l28Cabins.out a0 y) := by
  refine spec_intro (G35_ok.at tok []) (ct := [(4, some [1, 3, 4])]) Tryz.func152 rfl (by kernel_rfl) (by kernel_rfl) rfl ?_
  repeat' first
    | ((with_reducible refine eqg ?_); exact rfl)
    | ((with_reducible refine KOb.mk ?_); kernel_rfl)
    | ((with_reducible intro h); (repeat first | replace H := grd_k H | replace H := out_step H ‹_›); first | replace H := cond_t h H | replace H := cond_f h H | exact absurd h (by decide) | skip)
    | ((with_reducible refine Ob.mk ?_); first | (with_reducible rfl) | (first | ((repeat (first | (with_reducible exact grd_p H) | replace H := grd_k H | replace H := out_step H ‹_›)); done) | rfl | ((repeat (first | exact grd_p H | (have hp := grd_p H; exact hp) | replace H := grd_k H | replace H := out_step H ‹_› | (replace H := bind_some H; obtain ⟨_, _, H⟩ := H))); done) | (repeat (first | exact grd_p H | replace H := grd_k H | replace H := out_step H ‹_›))))
    | (with_reducible exact True.intro)
    | ((conv => whnf); first
        | (with_reducible refine And.intro ?_ ?_)
        | (with_reducible exact True.intro)
        | (with_reducible refine (?_ : Ob _))
        | ((with_reducible refine CallW.mk ?_); (repeat first | replace H := grd_k H | replace H := out_step H ‹_›); replace H := bind_some H; obtain ⟨y, hy, H⟩ := H; first | ((with_reducible have hz : spec_l28List _ _ = some y := hy); clear hz; refine ⟨_, _, spec_l28List.call hy ?_, rfl, rfl, ?_⟩))
        | ((repeat first | replace H := grd_k H | replace H := out_step H ‹_›); refine loop_iter (G35_ok.at tok []) (ct := [(4, some [1, 3, 4])]) (F := (fun s1 : Int × (List Int) => ⟨sl [(1, (.loc 0 0 0)), (3, (.own 1)), (4, (.v (.int .i64 s1.1)))], [some (.box 38 [(.v (.int .i64 a0.1)), (.tree ty_Slot a0.2.1), (.v (.int .i64 a0.2.2.1)), (.v (.int .i64 a0.2.2.2.1)), (.v (.int .i64 a0.2.2.2.2.1))]), some (.arr 3 (.int .i64) s1.2)]⟩)) (step := (fun s : Int × (List Int) => spec_l28Cabins_loop1 _ s.1 s.2)) _ H (by kernel_rfl) (sub_auto ?_) ?_; rotate_left; (intro s1 r v hr H); rotate_right)
        | ((repeat first | replace H := grd_k H | replace H := out_step H ‹_›); refine again_step H (by assumption) (sub_auto ?_))
        | ((with_reducible refine fin_mk ?_); (repeat first | replace H := grd_k H | replace H := out_step H ‹_›); have H := Option.some.inj H; subst H))
    | constructor
def G36 : Env := G35.add 152 [] spec_l28Cabins.S
theorem G36_ok : EnvOk Tryz.prog G36 := G35_ok.add ent_152 fun ar h r h1 ⟨a0, y, hy, e1, e2, e3, e4⟩ => by
  subst e3 e4; exact (spec_l28Cabins.spec a0 y hy).le e1 e2
attribute [local irreducible] spec_l28Cabins

end Go.Proofs.YtaobinhdnklojaaGreatDoor
namespace Go.Proofs.YtaobinhdnklojaaGreatDoor
open Go.RowKit
set_option maxHeartbeats 100000000
set_option maxRecDepth 100000
attribute [local irreducible] Ob loopwp Sub Spec Fin Again CallW CutC KOb iter

attribute [local irreducible] spec_l1In spec_l25Good spec_l1Num spec_l1Num_f spec_l25Open spec_l25Station spec_StepRopeway spec_l28List spec_l28Cabins

noncomputable def spec_l28Make (a0 : Console) (a1 : Int) (a2 : Int) : Option ((Console × ByteArray × (List Slot)) ⊕ (Console × ByteArray × (List Slot))) :=
  ((spec_StepRopeway (a0.1.1, a0.1.2.1, a0.1.2.2.1, a0.1.2.2.2.1, a0.1.2.2.2.2.1, ()) (a1, a2, ())).bind (Sum.elim (fun _ => (some (Sum.inl (((a0.1.1, a0.1.2.1, a0.1.2.2.1, a0.1.2.2.2.1, a0.1.2.2.2.2.1, ()), (a0.2.1.1, a0.2.1.2.1, a0.2.1.2.2.1, ()), ()), (ByteArray.mk #[63]), a0.1.2.1)))) (fun y3 => (cond (decide (a1 = (1 : Int))) (grd (0 ≤ a2 ∧ a2 < ([(ByteArray.mk #[115, 116, 111, 112, 112, 101, 100]), (ByteArray.mk #[115, 108, 111, 119]), (ByteArray.mk #[110, 111, 114, 109, 97, 108]), (ByteArray.mk #[108, 111, 99, 107, 101, 100])].length : Int)) ((some (Sum.inr (((y3.1, y3.2.1, y3.2.2.1, y3.2.2.2.1, y3.2.2.2.2.1, ()), (a0.2.1.1, a0.2.1.2.1, a0.2.1.2.2.1, ()), ()), ([(ByteArray.mk #[115, 116, 111, 112, 112, 101, 100]), (ByteArray.mk #[115, 108, 111, 119]), (ByteArray.mk #[110, 111, 114, 109, 97, 108]), (ByteArray.mk #[108, 111, 99, 107, 101, 100])].getD a2.toNat (ByteArray.mk #[])), a0.1.2.1))))) ((cond (decide (a1 = (2 : Int))) ((some (true, y3.1, y3.2.2.1, y3.2.2.2.1, y3.2.2.2.2.1, y3.1, y3.2.2.1, y3.2.2.2.1, y3.2.2.2.2.1, y3.2.1))) (cond (decide (a1 = (3 : Int))) ((some (true, y3.1, y3.2.2.1, y3.2.2.2.1, y3.2.2.2.2.1, y3.1, y3.2.2.1, y3.2.2.2.1, y3.2.2.2.2.1, y3.2.1))) ((some ((decide (a1 = (4 : Int))), y3.1, y3.2.2.1, y3.2.2.2.1, y3.2.2.2.2.1, y3.1, y3.2.2.1, y3.2.2.2.1, y3.2.2.2.2.1, y3.2.1))))).bind fun z4 => (cond z4.1 ((spec_l28Cabins (z4.2.1, z4.2.2.2.2.2.2.2.2.2, z4.2.2.1, z4.2.2.2.1, z4.2.2.2.2.1, ())).bind fun y5 => (some (Sum.inr (((z4.2.2.2.2.2.1, z4.2.2.2.2.2.2.2.2.2, z4.2.2.2.2.2.2.1, z4.2.2.2.2.2.2.2.1, z4.2.2.2.2.2.2.2.2.1, ()), (a0.2.1.1, a0.2.1.2.1, a0.2.1.2.2.1, ()), ()), y5, a0.1.2.1)))) (cond (decide (a1 = (7 : Int))) ((spec_l25Station (z4.2.1, z4.2.2.2.2.2.2.2.2.2, z4.2.2.1, z4.2.2.2.1, z4.2.2.2.2.1, ()) a2).bind fun y6 => (grd (0 ≤ y6 ∧ y6 < (z4.2.2.2.2.2.2.2.2.2.length : Int)) (cond ((z4.2.2.2.2.2.2.2.2.2.getD y6.toNat d_Slot).2.1) ((some (Sum.inr (((z4.2.2.2.2.2.1, z4.2.2.2.2.2.2.2.2.2, z4.2.2.2.2.2.2.1, z4.2.2.2.2.2.2.2.1, z4.2.2.2.2.2.2.2.2.1, ()), (a0.2.1.1, a0.2.1.2.1, a0.2.1.2.2.1, ()), ()), (ByteArray.mk #[111, 112, 101, 110]), a0.1.2.1)))) ((some (Sum.inr (((z4.2.2.2.2.2.1, z4.2.2.2.2.2.2.2.2.2, z4.2.2.2.2.2.2.1, z4.2.2.2.2.2.2.2.1, z4.2.2.2.2.2.2.2.2.1, ()), (a0.2.1.1, a0.2.1.2.1, a0.2.1.2.2.1, ()), ()), (ByteArray.mk #[115, 104, 117, 116]), a0.1.2.1))))))) ((spec_l25Station (z4.2.1, z4.2.2.2.2.2.2.2.2.2, z4.2.2.1, z4.2.2.2.1, z4.2.2.2.2.1, ()) a2).bind fun y7 => (grd (0 ≤ y7 ∧ y7 < (z4.2.2.2.2.2.2.2.2.2.length : Int)) ((spec_l1Num ((z4.2.2.2.2.2.2.2.2.2.getD y7.toNat d_Slot).2.2.1)).bind fun y8 => (some (Sum.inr (((z4.2.2.2.2.2.1, z4.2.2.2.2.2.2.2.2.2, z4.2.2.2.2.2.2.1, z4.2.2.2.2.2.2.2.1, z4.2.2.2.2.2.2.2.2.1, ()), (a0.2.1.1, a0.2.1.2.1, a0.2.1.2.2.1, ()), ()), y8, a0.1.2.1)))))))))))))
def spec_l28Make.res (_ : Console) (_ : Int) (_ : Int) (y : (Console × ByteArray × (List Slot)) ⊕ (Console × ByteArray × (List Slot))) : AV := match y with
  | (.inl y) => (.tup [(.agg [(.v (.int .i64 y.1.1.1)), (.own 0), (.v (.int .i64 y.1.1.2.2.1)), (.v (.int .i64 y.1.1.2.2.2.1)), (.v (.int .i64 y.1.1.2.2.2.2.1)), (.v (.string y.1.2.1.1)), (.v (.string y.1.2.1.2.1)), (.v (.int .i64 y.1.2.1.2.2.1))]), (.v (.string y.2.1))])
  | (.inr y) => (.tup [(.agg [(.v (.int .i64 y.1.1.1)), (.own 1), (.v (.int .i64 y.1.1.2.2.1)), (.v (.int .i64 y.1.1.2.2.2.1)), (.v (.int .i64 y.1.1.2.2.2.2.1)), (.v (.string y.1.2.1.1)), (.v (.string y.1.2.1.2.1)), (.v (.int .i64 y.1.2.1.2.2.1))]), (.v (.string y.2.1))])
def spec_l28Make.out (_ : Console) (_ : Int) (_ : Int) (y : (Console × ByteArray × (List Slot)) ⊕ (Console × ByteArray × (List Slot))) : List (Option LB) := match y with
  | (.inl y) => [some (.arr 96 ty_Slot y.2.2)]
  | (.inr y) => [some (.arr 96 ty_Slot y.2.2), some (.arr 96 ty_Slot y.1.1.2.1)]
def spec_l28Make.S (ar : List AV) (h : List (Option LB)) (r : AV) (h1 : List (Option LB)) : Prop := ∃ a0 a1 a2 y, spec_l28Make a0 a1 a2 = some y ∧ leL ar [(.agg [(.v (.int .i64 a0.1.1)), (.own 0), (.v (.int .i64 a0.1.2.2.1)), (.v (.int .i64 a0.1.2.2.2.1)), (.v (.int .i64 a0.1.2.2.2.2.1)), (.v (.string a0.2.1.1)), (.v (.string a0.2.1.2.1)), (.v (.int .i64 a0.2.1.2.2.1))]), (.v (.int .i64 a1)), (.v (.int .i64 a2))] ∧ leH h [some (.arr 96 ty_Slot a0.1.2.1)] ∧ r = spec_l28Make.res a0 a1 a2 y ∧ h1 = spec_l28Make.out a0 a1 a2 y
theorem spec_l28Make.call {ar h a0 a1 a2 y} (H : spec_l28Make a0 a1 a2 = some y) (h0 : leLk ar [(.agg [(.v (.int .i64 a0.1.1)), (.own 0), (.v (.int .i64 a0.1.2.2.1)), (.v (.int .i64 a0.1.2.2.2.1)), (.v (.int .i64 a0.1.2.2.2.2.1)), (.v (.string a0.2.1.1)), (.v (.string a0.2.1.2.1)), (.v (.int .i64 a0.2.1.2.2.1))]), (.v (.int .i64 a1)), (.v (.int .i64 a2))] (leHk h [some (.arr 96 ty_Slot a0.1.2.1)])) : spec_l28Make.S ar h (spec_l28Make.res a0 a1 a2 y) (spec_l28Make.out a0 a1 a2 y) := ⟨a0, a1, a2, y, H, (args_ok h0).1, (args_ok h0).2, rfl, rfl⟩
theorem spec_l28Make.spec (a0 a1 a2 y) (H : spec_l28Make a0 a1 a2 = some y) : Spec Tryz.prog 114 [(.agg [(.v (.int .i64 a0.1.1)), (.own 0), (.v (.int .i64 a0.1.2.2.1)), (.v (.int .i64 a0.1.2.2.2.1)), (.v (.int .i64 a0.1.2.2.2.2.1)), (.v (.string a0.2.1.1)), (.v (.string a0.2.1.2.1)), (.v (.int .i64 a0.2.1.2.2.1))]), (.v (.int .i64 a1)), (.v (.int .i64 a2))] [some (.arr 96 ty_Slot a0.1.2.1)] (spec_l28Make.res a0 a1 a2 y) (spec_l28Make.out a0 a1 a2 y) := by
  have hlen : Nat.ble ([some (.arr 96 ty_Slot a0.1.2.1)] : List (Option LB)).length (spec_l28Make.out a0 a1 a2 y).length = true := by
    rcases y with y | y <;> rfl
  refine spec_intro (G36_ok.at tok []) (ct := [(12, none), (2, some [1, 2, 3, 6, 8, 9]), (11, some [2, 6, 8, 10, 26, 34]), (17, some [2, 6, 8, 10])]) Tryz.func114 rfl (by kernel_rfl) (by kernel_rfl) hlen ?_
  repeat' first
    | ((with_reducible refine eqg ?_); exact rfl)
    | ((with_reducible refine KOb.mk ?_); kernel_rfl)
    | ((with_reducible intro h); (repeat first | replace H := grd_k H | replace H := out_step H ‹_›); first | replace H := cond_t h H | replace H := cond_f h H | exact absurd h (by decide) | skip)
    | ((with_reducible refine Ob.mk ?_); first | (with_reducible rfl) | (first | ((repeat (first | (with_reducible exact grd_p H) | replace H := grd_k H | replace H := out_step H ‹_›)); done) | rfl | ((repeat (first | exact grd_p H | (have hp := grd_p H; exact hp) | replace H := grd_k H | replace H := out_step H ‹_› | (replace H := bind_some H; obtain ⟨_, _, H⟩ := H))); done) | (repeat (first | exact grd_p H | replace H := grd_k H | replace H := out_step H ‹_›))))
    | (with_reducible exact True.intro)
    | ((conv => whnf); first
        | (with_reducible refine And.intro ?_ ?_)
        | (with_reducible exact True.intro)
        | (with_reducible refine (?_ : Ob _))
        | ((with_reducible refine CallW.mk ?_); (repeat first | replace H := grd_k H | replace H := out_step H ‹_›); replace H := bind_some H; obtain ⟨y, hy, H⟩ := H; first | ((with_reducible have hz : spec_StepRopeway _ _ = some y := hy); clear hz; rcases y with y | y <;> refine ⟨_, _, spec_StepRopeway.call hy ?_, rfl, rfl, ?_⟩) | ((with_reducible have hz : spec_l28Cabins _ = some y := hy); clear hz; refine ⟨_, _, spec_l28Cabins.call hy ?_, rfl, rfl, ?_⟩) | ((with_reducible have hz : spec_l25Station _ _ = some y := hy); clear hz; refine ⟨_, _, spec_l25Station.call hy ?_, rfl, rfl, ?_⟩) | ((with_reducible have hz : spec_l1Num _ = some y := hy); clear hz; refine ⟨_, _, spec_l1Num.call hy ?_, rfl, rfl, ?_⟩))
        | ((with_reducible refine cutAt (id := 12) ?_); (repeat first | replace H := grd_k H | replace H := out_step H ‹_›); first | (replace H := bind_some H; obtain ⟨z, hz, H⟩ := H; refine CutC.mk (id := 12) ⟨sl [(2, (.v (.int .i64 a2))), (6, (.loc 1 0 0)), (8, (.loc 2 0 0)), (10, (.loc 3 0 0)), (26, (.v (.int .i64 a1))), (34, (.bl z.1))], [some (.arr 96 ty_Slot a0.1.2.1), some (.box 40 [(.v (.int .i64 (0 : Int))), (.v (.slice none 0 0)), (.v (.int .i64 (0 : Int))), (.v (.int .i64 (0 : Int))), (.v (.int .i64 (0 : Int))), (.v (.string (ByteArray.mk #[]))), (.v (.string (ByteArray.mk #[]))), (.v (.int .i64 (0 : Int)))]), some (.box 38 [(.v (.int .i64 z.2.1)), (.own 4), (.v (.int .i64 z.2.2.1)), (.v (.int .i64 z.2.2.2.1)), (.v (.int .i64 z.2.2.2.2.1))]), some (.box 40 [(.v (.int .i64 z.2.2.2.2.2.1)), (.own 4), (.v (.int .i64 z.2.2.2.2.2.2.1)), (.v (.int .i64 z.2.2.2.2.2.2.2.1)), (.v (.int .i64 z.2.2.2.2.2.2.2.2.1)), (.v (.string a0.2.1.1)), (.v (.string a0.2.1.2.1)), (.v (.int .i64 a0.2.1.2.2.1))]), some (.arr 96 ty_Slot z.2.2.2.2.2.2.2.2.2)]⟩ ?_ ?_; (replace H := hz)))
        | ((repeat first | replace H := grd_k H | replace H := out_step H ‹_›); have H := Option.some.inj H; subst H; with_reducible refine sub_auto ?_)
        | ((with_reducible refine fin_mk ?_); (repeat first | replace H := grd_k H | replace H := out_step H ‹_›); have H := Option.some.inj H; subst H))
    | constructor
def G37 : Env := G36.add 114 [true] spec_l28Make.S
theorem G37_ok : EnvOk Tryz.prog G37 := G36_ok.add ent_114 fun ar h r h1 ⟨a0, a1, a2, y, hy, e1, e2, e3, e4⟩ => by
  subst e3 e4; exact (spec_l28Make.spec a0 a1 a2 y hy).le e1 e2
attribute [local irreducible] spec_l28Make

noncomputable def spec_l25Sum_loop1 (a0 : Ropeway) (v4 : Int) (v5 : Int) (v6 : Int) : Option (Lp (Int × Int × Int) ((Int × Int))) :=
  (cond (decide (v6 < (a0.2.1.length : Int))) (grd (0 ≤ v6 ∧ v6 < (a0.2.1.length : Int)) (cond (!decide (v6 = (0 : Int))) (grd ((2 : Int) ≠ 0) (cond (!decide (v6 = (w64 (Int.tdiv (a0.2.1.length : Int) (2 : Int))))) (grd (0 ≤ v6 ∧ v6 < (a0.2.1.length : Int)) (some (.go ((w64 (v4 + ((a0.2.1.getD v6.toNat d_Slot).2.2.1))), (w64 (v5 + ((a0.2.1.getD v6.toNat d_Slot).2.2.1))), (w64 (v6 + (1 : Int))))))) (some (.go ((w64 (v4 + ((a0.2.1.getD v6.toNat d_Slot).2.2.1))), v5, (w64 (v6 + (1 : Int)))))))) (some (.go ((w64 (v4 + ((a0.2.1.getD v6.toNat d_Slot).2.2.1))), v5, (w64 (v6 + (1 : Int)))))))) ((some (.out (v4, v5)))))
noncomputable def spec_l25Sum (a0 : Ropeway) : Option (Int × Int) :=
  ((iter (fun s => spec_l25Sum_loop1 a0 s.1 s.2.1 s.2.2) ((0 : Int), (0 : Int), (0 : Int))).bind (fun r7 => (some (r7.1, r7.2))))
def spec_l25Sum.res (_ : Ropeway) (y : Int × Int) : AV := (.tup [(.v (.int .i64 y.1)), (.v (.int .i64 y.2))])
def spec_l25Sum.out (_ : Ropeway) (_ : Int × Int) : List (Option LB) := []
def spec_l25Sum.S (ar : List AV) (h : List (Option LB)) (r : AV) (h1 : List (Option LB)) : Prop := ∃ a0 y, spec_l25Sum a0 = some y ∧ leL ar [(.agg [(.v (.int .i64 a0.1)), (.tree ty_Slot a0.2.1), (.v (.int .i64 a0.2.2.1)), (.v (.int .i64 a0.2.2.2.1)), (.v (.int .i64 a0.2.2.2.2.1))])] ∧ leH h [] ∧ r = spec_l25Sum.res a0 y ∧ h1 = spec_l25Sum.out a0 y
theorem spec_l25Sum.call {ar h a0 y} (H : spec_l25Sum a0 = some y) (h0 : leLk ar [(.agg [(.v (.int .i64 a0.1)), (.tree ty_Slot a0.2.1), (.v (.int .i64 a0.2.2.1)), (.v (.int .i64 a0.2.2.2.1)), (.v (.int .i64 a0.2.2.2.2.1))])] (leHk h [])) : spec_l25Sum.S ar h (spec_l25Sum.res a0 y) (spec_l25Sum.out a0 y) := ⟨a0, y, H, (args_ok h0).1, (args_ok h0).2, rfl, rfl⟩
theorem spec_l25Sum.spec (a0 y) (H : spec_l25Sum a0 = some y) : Spec Tryz.prog 115 [(.agg [(.v (.int .i64 a0.1)), (.tree ty_Slot a0.2.1), (.v (.int .i64 a0.2.2.1)), (.v (.int .i64 a0.2.2.2.1)), (.v (.int .i64 a0.2.2.2.2.1))])] [] (spec_l25Sum.res a0 y) (spec_l25Sum.out a0 y) := by
  refine spec_intro (G37_ok.at tok []) (ct := [(4, some [1, 4, 5, 6, 25, 26, 27, 28, 29, 30]), (6, some [1, 4, 5, 6, 25, 26, 27, 28, 29, 30])]) Tryz.func115 rfl (by kernel_rfl) (by kernel_rfl) rfl ?_
  repeat' first
    | ((with_reducible refine eqg ?_); exact rfl)
    | ((with_reducible refine KOb.mk ?_); kernel_rfl)
    | ((with_reducible intro h); (repeat first | replace H := grd_k H | replace H := out_step H ‹_›); first | replace H := cond_t h H | replace H := cond_f h H | exact absurd h (by decide) | skip)
    | ((with_reducible refine Ob.mk ?_); first | (with_reducible rfl) | (first | ((repeat (first | (with_reducible exact grd_p H) | replace H := grd_k H | replace H := out_step H ‹_›)); done) | rfl | ((repeat (first | exact grd_p H | (have hp := grd_p H; exact hp) | replace H := grd_k H | replace H := out_step H ‹_› | (replace H := bind_some H; obtain ⟨_, _, H⟩ := H))); done) | (repeat (first | exact grd_p H | replace H := grd_k H | replace H := out_step H ‹_›))))
    | (with_reducible exact True.intro)
    | ((conv => whnf); first
        | (with_reducible refine And.intro ?_ ?_)
        | (with_reducible exact True.intro)
        | (with_reducible refine (?_ : Ob _))
        | ((repeat first | replace H := grd_k H | replace H := out_step H ‹_›); refine loop_iter (G37_ok.at tok []) (ct := [(4, some [1, 4, 5, 6, 25, 26, 27, 28, 29, 30]), (6, some [1, 4, 5, 6, 25, 26, 27, 28, 29, 30])]) (F := (fun s1 : Int × Int × Int => ⟨sl [(1, (.loc 0 0 0)), (4, (.v (.int .i64 s1.1))), (5, (.v (.int .i64 s1.2.1))), (6, (.v (.int .i64 s1.2.2)))], [some (.box 38 [(.v (.int .i64 a0.1)), (.tree ty_Slot a0.2.1), (.v (.int .i64 a0.2.2.1)), (.v (.int .i64 a0.2.2.2.1)), (.v (.int .i64 a0.2.2.2.2.1))])]⟩)) (step := (fun s : Int × Int × Int => spec_l25Sum_loop1 _ s.1 s.2.1 s.2.2)) _ H (by kernel_rfl) (sub_auto ?_) ?_; rotate_left; (intro s1 r v hr H); rotate_right)
        | ((repeat first | replace H := grd_k H | replace H := out_step H ‹_›); refine again_step H (by assumption) (sub_auto ?_))
        | ((with_reducible refine fin_mk ?_); (repeat first | replace H := grd_k H | replace H := out_step H ‹_›); have H := Option.some.inj H; subst H))
    | constructor
def G38 : Env := G37.add 115 [] spec_l25Sum.S
theorem G38_ok : EnvOk Tryz.prog G38 := G37_ok.add ent_115 fun ar h r h1 ⟨a0, y, hy, e1, e2, e3, e4⟩ => by
  subst e3 e4; exact (spec_l25Sum.spec a0 y hy).le e1 e2
attribute [local irreducible] spec_l25Sum

noncomputable def spec_IsCleared (a0 : Ropeway) : Option (Bool × Bool) :=
  ((spec_l25Good (a0.1, a0.2.1, a0.2.2.1, a0.2.2.2.1, a0.2.2.2.2.1, ())).bind fun y1 => (cond (!y1) ((some (false, false))) ((spec_l25Sum (a0.1, a0.2.1, a0.2.2.1, a0.2.2.2.1, a0.2.2.2.2.1, ())).bind fun y2 => (cond (decide (a0.2.2.2.1 = (0 : Int))) ((some ((decide (y2.1 = (0 : Int))), true))) ((some (false, true)))))))
def spec_IsCleared.res (_ : Ropeway) (y : Bool × Bool) : AV := (.tup [(.bl y.1), (.bl y.2)])
def spec_IsCleared.out (_ : Ropeway) (_ : Bool × Bool) : List (Option LB) := []
def spec_IsCleared.S (ar : List AV) (h : List (Option LB)) (r : AV) (h1 : List (Option LB)) : Prop := ∃ a0 y, spec_IsCleared a0 = some y ∧ leL ar [(.agg [(.v (.int .i64 a0.1)), (.tree ty_Slot a0.2.1), (.v (.int .i64 a0.2.2.1)), (.v (.int .i64 a0.2.2.2.1)), (.v (.int .i64 a0.2.2.2.2.1))])] ∧ leH h [] ∧ r = spec_IsCleared.res a0 y ∧ h1 = spec_IsCleared.out a0 y
theorem spec_IsCleared.call {ar h a0 y} (H : spec_IsCleared a0 = some y) (h0 : leLk ar [(.agg [(.v (.int .i64 a0.1)), (.tree ty_Slot a0.2.1), (.v (.int .i64 a0.2.2.1)), (.v (.int .i64 a0.2.2.2.1)), (.v (.int .i64 a0.2.2.2.2.1))])] (leHk h [])) : spec_IsCleared.S ar h (spec_IsCleared.res a0 y) (spec_IsCleared.out a0 y) := ⟨a0, y, H, (args_ok h0).1, (args_ok h0).2, rfl, rfl⟩
theorem spec_IsCleared.spec (a0 y) (H : spec_IsCleared a0 = some y) : Spec Tryz.prog 118 [(.agg [(.v (.int .i64 a0.1)), (.tree ty_Slot a0.2.1), (.v (.int .i64 a0.2.2.1)), (.v (.int .i64 a0.2.2.2.1)), (.v (.int .i64 a0.2.2.2.2.1))])] [] (spec_IsCleared.res a0 y) (spec_IsCleared.out a0 y) := by
  refine spec_intro (G38_ok.at tok []) (ct := [(4, some [1, 4, 18, 19])]) Tryz.func118 rfl (by kernel_rfl) (by kernel_rfl) rfl ?_
  repeat' first
    | ((with_reducible refine eqg ?_); exact rfl)
    | ((with_reducible refine KOb.mk ?_); kernel_rfl)
    | ((with_reducible intro h); (repeat first | replace H := grd_k H | replace H := out_step H ‹_›); first | replace H := cond_t h H | replace H := cond_f h H | exact absurd h (by decide) | skip)
    | ((with_reducible refine Ob.mk ?_); first | (with_reducible rfl) | (first | ((repeat (first | (with_reducible exact grd_p H) | replace H := grd_k H | replace H := out_step H ‹_›)); done) | rfl | ((repeat (first | exact grd_p H | (have hp := grd_p H; exact hp) | replace H := grd_k H | replace H := out_step H ‹_› | (replace H := bind_some H; obtain ⟨_, _, H⟩ := H))); done) | (repeat (first | exact grd_p H | replace H := grd_k H | replace H := out_step H ‹_›))))
    | (with_reducible exact True.intro)
    | ((conv => whnf); first
        | (with_reducible refine And.intro ?_ ?_)
        | (with_reducible exact True.intro)
        | (with_reducible refine (?_ : Ob _))
        | ((with_reducible refine CallW.mk ?_); (repeat first | replace H := grd_k H | replace H := out_step H ‹_›); replace H := bind_some H; obtain ⟨y, hy, H⟩ := H; first | ((with_reducible have hz : spec_l25Good _ = some y := hy); clear hz; refine ⟨_, _, spec_l25Good.call hy ?_, rfl, rfl, ?_⟩) | ((with_reducible have hz : spec_l25Sum _ = some y := hy); clear hz; refine ⟨_, _, spec_l25Sum.call hy ?_, rfl, rfl, ?_⟩))
        | ((with_reducible refine fin_mk ?_); (repeat first | replace H := grd_k H | replace H := out_step H ‹_›); have H := Option.some.inj H; subst H))
    | constructor
def G39 : Env := G38.add 118 [] spec_IsCleared.S
theorem G39_ok : EnvOk Tryz.prog G39 := G38_ok.add ent_118 fun ar h r h1 ⟨a0, y, hy, e1, e2, e3, e4⟩ => by
  subst e3 e4; exact (spec_IsCleared.spec a0 y hy).le e1 e2
attribute [local irreducible] spec_IsCleared

noncomputable def spec_l28Word (a0 : Console) (a1 : ByteArray) : Option ((Console × ByteArray × (List Slot)) ⊕ (Console × ByteArray × (List Slot))) :=
  (cond (decide (a1 = (ByteArray.mk #[115, 116, 111, 112]))) ((spec_l28Make ((a0.1.1, a0.1.2.1, a0.1.2.2.1, a0.1.2.2.2.1, a0.1.2.2.2.2.1, ()), (a0.2.1.1, a0.2.1.2.1, a0.2.1.2.2.1, ()), ()) (1 : Int) (0 : Int)).bind (Sum.elim (fun y2 => (some (Sum.inl (((y2.1.1.1, y2.2.2, y2.1.1.2.2.1, y2.1.1.2.2.2.1, y2.1.1.2.2.2.2.1, ()), (y2.1.2.1.1, y2.1.2.1.2.1, y2.1.2.1.2.2.1, ()), ()), y2.2.1, y2.2.2)))) (fun y3 => (some (Sum.inr (((y3.1.1.1, y3.1.1.2.1, y3.1.1.2.2.1, y3.1.1.2.2.2.1, y3.1.1.2.2.2.2.1, ()), (y3.1.2.1.1, y3.1.2.1.2.1, y3.1.2.1.2.2.1, ()), ()), y3.2.1, y3.2.2)))))) (cond (decide (a1 = (ByteArray.mk #[115, 108, 111, 119]))) ((spec_l28Make ((a0.1.1, a0.1.2.1, a0.1.2.2.1, a0.1.2.2.2.1, a0.1.2.2.2.2.1, ()), (a0.2.1.1, a0.2.1.2.1, a0.2.1.2.2.1, ()), ()) (1 : Int) (1 : Int)).bind (Sum.elim (fun y5 => (some (Sum.inl (((y5.1.1.1, y5.2.2, y5.1.1.2.2.1, y5.1.1.2.2.2.1, y5.1.1.2.2.2.2.1, ()), (y5.1.2.1.1, y5.1.2.1.2.1, y5.1.2.1.2.2.1, ()), ()), y5.2.1, y5.2.2)))) (fun y6 => (some (Sum.inr (((y6.1.1.1, y6.1.1.2.1, y6.1.1.2.2.1, y6.1.1.2.2.2.1, y6.1.1.2.2.2.2.1, ()), (y6.1.2.1.1, y6.1.2.1.2.1, y6.1.2.1.2.2.1, ()), ()), y6.2.1, y6.2.2)))))) (cond (decide (a1 = (ByteArray.mk #[102, 97, 115, 116]))) ((spec_l28Make ((a0.1.1, a0.1.2.1, a0.1.2.2.1, a0.1.2.2.2.1, a0.1.2.2.2.2.1, ()), (a0.2.1.1, a0.2.1.2.1, a0.2.1.2.2.1, ()), ()) (1 : Int) (2 : Int)).bind (Sum.elim (fun y8 => (some (Sum.inl (((y8.1.1.1, y8.2.2, y8.1.1.2.2.1, y8.1.1.2.2.2.1, y8.1.1.2.2.2.2.1, ()), (y8.1.2.1.1, y8.1.2.1.2.1, y8.1.2.1.2.2.1, ()), ()), y8.2.1, y8.2.2)))) (fun y9 => (some (Sum.inr (((y9.1.1.1, y9.1.1.2.1, y9.1.1.2.2.1, y9.1.1.2.2.2.1, y9.1.1.2.2.2.2.1, ()), (y9.1.2.1.1, y9.1.2.1.2.1, y9.1.2.1.2.2.1, ()), ()), y9.2.1, y9.2.2)))))) (cond (decide (a1 = (ByteArray.mk #[108, 111, 99, 107]))) ((spec_l28Make ((a0.1.1, a0.1.2.1, a0.1.2.2.1, a0.1.2.2.2.1, a0.1.2.2.2.2.1, ()), (a0.2.1.1, a0.2.1.2.1, a0.2.1.2.2.1, ()), ()) (1 : Int) (3 : Int)).bind (Sum.elim (fun y11 => (some (Sum.inl (((y11.1.1.1, y11.2.2, y11.1.1.2.2.1, y11.1.1.2.2.2.1, y11.1.1.2.2.2.2.1, ()), (y11.1.2.1.1, y11.1.2.1.2.1, y11.1.2.1.2.2.1, ()), ()), y11.2.1, y11.2.2)))) (fun y12 => (some (Sum.inr (((y12.1.1.1, y12.1.1.2.1, y12.1.1.2.2.1, y12.1.1.2.2.2.1, y12.1.1.2.2.2.2.1, ()), (y12.1.2.1.1, y12.1.2.1.2.1, y12.1.2.1.2.2.1, ()), ()), y12.2.1, y12.2.2)))))) (cond (decide (a1 = (ByteArray.mk #[116, 117, 114, 110]))) ((spec_l28Make ((a0.1.1, a0.1.2.1, a0.1.2.2.1, a0.1.2.2.2.1, a0.1.2.2.2.2.1, ()), (a0.2.1.1, a0.2.1.2.1, a0.2.1.2.2.1, ()), ()) (2 : Int) (0 : Int)).bind (Sum.elim (fun y14 => (some (Sum.inl (((y14.1.1.1, y14.2.2, y14.1.1.2.2.1, y14.1.1.2.2.2.1, y14.1.1.2.2.2.2.1, ()), (y14.1.2.1.1, y14.1.2.1.2.1, y14.1.2.1.2.2.1, ()), ()), y14.2.1, y14.2.2)))) (fun y15 => (some (Sum.inr (((y15.1.1.1, y15.1.1.2.1, y15.1.1.2.2.1, y15.1.1.2.2.2.1, y15.1.1.2.2.2.2.1, ()), (y15.1.2.1.1, y15.1.2.1.2.1, y15.1.2.1.2.2.1, ()), ()), y15.2.1, y15.2.2)))))) (cond (decide (a1 = (ByteArray.mk #[116, 97, 107, 101]))) ((spec_l28Make ((a0.1.1, a0.1.2.1, a0.1.2.2.1, a0.1.2.2.2.1, a0.1.2.2.2.2.1, ()), (a0.2.1.1, a0.2.1.2.1, a0.2.1.2.2.1, ()), ()) (4 : Int) (0 : Int)).bind (Sum.elim (fun y17 => (some (Sum.inl (((y17.1.1.1, y17.2.2, y17.1.1.2.2.1, y17.1.1.2.2.2.1, y17.1.1.2.2.2.2.1, ()), (y17.1.2.1.1, y17.1.2.1.2.1, y17.1.2.1.2.2.1, ()), ()), y17.2.1, y17.2.2)))) (fun y18 => (some (Sum.inr (((y18.1.1.1, y18.1.1.2.1, y18.1.1.2.2.1, y18.1.1.2.2.2.1, y18.1.1.2.2.2.2.1, ()), (y18.1.2.1.1, y18.1.2.1.2.1, y18.1.2.1.2.2.1, ()), ()), y18.2.1, y18.2.2)))))) (cond (decide (a1 = (ByteArray.mk #[112, 101, 111, 112, 108, 101]))) ((spec_l25Sum (a0.1.1, a0.1.2.1, a0.1.2.2.1, a0.1.2.2.2.1, a0.1.2.2.2.2.1, ())).bind fun y19 => ((spec_l28List [a0.1.2.2.1, y19.1, a0.1.2.2.2.1, a0.1.2.2.2.2.1] true).bind fun y20 => (some (Sum.inl (((a0.1.1, a0.1.2.1, a0.1.2.2.1, a0.1.2.2.2.1, a0.1.2.2.2.2.1, ()), (a0.2.1.1, a0.2.1.2.1, a0.2.1.2.2.1, ()), ()), y20, a0.1.2.1))))) (cond (decide (a1 = (ByteArray.mk #[100, 111, 111, 114, 115]))) ((spec_l25Open (a0.1.1, a0.1.2.1, a0.1.2.2.1, a0.1.2.2.2.1, a0.1.2.2.2.2.1, ())).bind fun y21 => ((spec_l28List y21 true).bind fun y22 => (some (Sum.inl (((a0.1.1, a0.1.2.1, a0.1.2.2.1, a0.1.2.2.2.1, a0.1.2.2.2.2.1, ()), (a0.2.1.1, a0.2.1.2.1, a0.2.1.2.2.1, ()), ()), y22, a0.1.2.1))))) (cond (decide (a1 = (ByteArray.mk #[99, 108, 101, 97, 114]))) ((spec_IsCleared (a0.1.1, a0.1.2.1, a0.1.2.2.1, a0.1.2.2.2.1, a0.1.2.2.2.2.1, ())).bind fun y23 => (cond y23.1 ((some (Sum.inl (((a0.1.1, a0.1.2.1, a0.1.2.2.1, a0.1.2.2.2.1, a0.1.2.2.2.2.1, ()), (a0.2.1.1, a0.2.1.2.1, a0.2.1.2.2.1, ()), ()), (ByteArray.mk #[121, 101, 115]), a0.1.2.1)))) ((some (Sum.inl (((a0.1.1, a0.1.2.1, a0.1.2.2.1, a0.1.2.2.2.1, a0.1.2.2.2.2.1, ()), (a0.2.1.1, a0.2.1.2.1, a0.2.1.2.2.1, ()), ()), (ByteArray.mk #[110, 111]), a0.1.2.1)))))) ((some (Sum.inl (((a0.1.1, a0.1.2.1, a0.1.2.2.1, a0.1.2.2.2.1, a0.1.2.2.2.2.1, ()), (a0.2.1.1, a0.2.1.2.1, a0.2.1.2.2.1, ()), ()), (ByteArray.mk #[63]), a0.1.2.1)))))))))))))
def spec_l28Word.res (_ : Console) (_ : ByteArray) (y : (Console × ByteArray × (List Slot)) ⊕ (Console × ByteArray × (List Slot))) : AV := match y with
  | (.inl y) => (.tup [(.agg [(.v (.int .i64 y.1.1.1)), (.own 0), (.v (.int .i64 y.1.1.2.2.1)), (.v (.int .i64 y.1.1.2.2.2.1)), (.v (.int .i64 y.1.1.2.2.2.2.1)), (.v (.string y.1.2.1.1)), (.v (.string y.1.2.1.2.1)), (.v (.int .i64 y.1.2.1.2.2.1))]), (.v (.string y.2.1))])
  | (.inr y) => (.tup [(.agg [(.v (.int .i64 y.1.1.1)), (.own 1), (.v (.int .i64 y.1.1.2.2.1)), (.v (.int .i64 y.1.1.2.2.2.1)), (.v (.int .i64 y.1.1.2.2.2.2.1)), (.v (.string y.1.2.1.1)), (.v (.string y.1.2.1.2.1)), (.v (.int .i64 y.1.2.1.2.2.1))]), (.v (.string y.2.1))])
def spec_l28Word.out (_ : Console) (_ : ByteArray) (y : (Console × ByteArray × (List Slot)) ⊕ (Console × ByteArray × (List Slot))) : List (Option LB) := match y with
  | (.inl y) => [some (.arr 96 ty_Slot y.2.2)]
  | (.inr y) => [some (.arr 96 ty_Slot y.2.2), some (.arr 96 ty_Slot y.1.1.2.1)]
def spec_l28Word.S (ar : List AV) (h : List (Option LB)) (r : AV) (h1 : List (Option LB)) : Prop := ∃ a0 a1 y, spec_l28Word a0 a1 = some y ∧ leL ar [(.agg [(.v (.int .i64 a0.1.1)), (.own 0), (.v (.int .i64 a0.1.2.2.1)), (.v (.int .i64 a0.1.2.2.2.1)), (.v (.int .i64 a0.1.2.2.2.2.1)), (.v (.string a0.2.1.1)), (.v (.string a0.2.1.2.1)), (.v (.int .i64 a0.2.1.2.2.1))]), (.v (.string a1))] ∧ leH h [some (.arr 96 ty_Slot a0.1.2.1)] ∧ r = spec_l28Word.res a0 a1 y ∧ h1 = spec_l28Word.out a0 a1 y
theorem spec_l28Word.call {ar h a0 a1 y} (H : spec_l28Word a0 a1 = some y) (h0 : leLk ar [(.agg [(.v (.int .i64 a0.1.1)), (.own 0), (.v (.int .i64 a0.1.2.2.1)), (.v (.int .i64 a0.1.2.2.2.1)), (.v (.int .i64 a0.1.2.2.2.2.1)), (.v (.string a0.2.1.1)), (.v (.string a0.2.1.2.1)), (.v (.int .i64 a0.2.1.2.2.1))]), (.v (.string a1))] (leHk h [some (.arr 96 ty_Slot a0.1.2.1)])) : spec_l28Word.S ar h (spec_l28Word.res a0 a1 y) (spec_l28Word.out a0 a1 y) := ⟨a0, a1, y, H, (args_ok h0).1, (args_ok h0).2, rfl, rfl⟩
theorem spec_l28Word.spec (a0 a1 y) (H : spec_l28Word a0 a1 = some y) : Spec Tryz.prog 79 [(.agg [(.v (.int .i64 a0.1.1)), (.own 0), (.v (.int .i64 a0.1.2.2.1)), (.v (.int .i64 a0.1.2.2.2.1)), (.v (.int .i64 a0.1.2.2.2.2.1)), (.v (.string a0.2.1.1)), (.v (.string a0.2.1.2.1)), (.v (.int .i64 a0.2.1.2.2.1))]), (.v (.string a1))] [some (.arr 96 ty_Slot a0.1.2.1)] (spec_l28Word.res a0 a1 y) (spec_l28Word.out a0 a1 y) := by
  have hlen : Nat.ble ([some (.arr 96 ty_Slot a0.1.2.1)] : List (Option LB)).length (spec_l28Word.out a0 a1 y).length = true := by
    rcases y with y | y <;> rfl
  refine spec_intro (G39_ok.at tok []) (ct := [(10, some [2, 4, 6, 13, 32]), (22, some [2, 4, 9]), (25, some [2, 4])]) Tryz.func79 rfl (by kernel_rfl) (by kernel_rfl) hlen ?_
  repeat' first
    | ((with_reducible refine eqg ?_); exact rfl)
    | ((with_reducible refine KOb.mk ?_); kernel_rfl)
    | ((with_reducible intro h); (repeat first | replace H := grd_k H | replace H := out_step H ‹_›); first | replace H := cond_t h H | replace H := cond_f h H | exact absurd h (by decide) | skip)
    | ((with_reducible refine Ob.mk ?_); first | (with_reducible rfl) | (first | ((repeat (first | (with_reducible exact grd_p H) | replace H := grd_k H | replace H := out_step H ‹_›)); done) | rfl | ((repeat (first | exact grd_p H | (have hp := grd_p H; exact hp) | replace H := grd_k H | replace H := out_step H ‹_› | (replace H := bind_some H; obtain ⟨_, _, H⟩ := H))); done) | (repeat (first | exact grd_p H | replace H := grd_k H | replace H := out_step H ‹_›))))
    | (with_reducible exact True.intro)
    | ((conv => whnf); first
        | (with_reducible refine And.intro ?_ ?_)
        | (with_reducible exact True.intro)
        | (with_reducible refine (?_ : Ob _))
        | ((with_reducible refine CallW.mk ?_); (repeat first | replace H := grd_k H | replace H := out_step H ‹_›); replace H := bind_some H; obtain ⟨y, hy, H⟩ := H; first | ((with_reducible have hz : spec_l28Make _ _ _ = some y := hy); clear hz; rcases y with y | y <;> refine ⟨_, _, spec_l28Make.call hy ?_, rfl, rfl, ?_⟩) | ((with_reducible have hz : spec_l25Sum _ = some y := hy); clear hz; refine ⟨_, _, spec_l25Sum.call hy ?_, rfl, rfl, ?_⟩) | ((with_reducible have hz : spec_l28List _ _ = some y := hy); clear hz; refine ⟨_, _, spec_l28List.call hy ?_, rfl, rfl, ?_⟩) | ((with_reducible have hz : spec_l25Open _ = some y := hy); clear hz; refine ⟨_, _, spec_l25Open.call hy ?_, rfl, rfl, ?_⟩) | ((with_reducible have hz : spec_IsCleared _ = some y := hy); clear hz; refine ⟨_, _, spec_IsCleared.call hy ?_, rfl, rfl, ?_⟩))
        | ((with_reducible refine fin_mk ?_); (repeat first | replace H := grd_k H | replace H := out_step H ‹_›); have H := Option.some.inj H; subst H))
    | constructor
def G40 : Env := G39.add 79 [true] spec_l28Word.S
theorem G40_ok : EnvOk Tryz.prog G40 := G39_ok.add ent_79 fun ar h r h1 ⟨a0, a1, y, hy, e1, e2, e3, e4⟩ => by
  subst e3 e4; exact (spec_l28Word.spec a0 a1 y hy).le e1 e2
attribute [local irreducible] spec_l28Word

noncomputable def spec_l1Read_loop1  (v8 : ByteArray) (v9 : Int) (v10 : Int) : Option (Lp (ByteArray × Int × Int) ((Unit) ⊕ (ByteArray × Int))) :=
  (cond (decide (v10 < (v8.size : Int))) (grd (0 ≤ v10 ∧ v10 < (v8.size : Int)) (cond (decide ((bAt v8 v10) < (48 : Int))) ((some (.out (Sum.inl ())))) (grd (0 ≤ v10 ∧ v10 < (v8.size : Int)) (cond (decide ((57 : Int) < (bAt v8 v10))) ((some (.out (Sum.inl ())))) (grd (0 ≤ v10 ∧ v10 < (v8.size : Int)) (some (.go (v8, (w64 ((w64 ((10 : Int) * v9)) + (w64 (wu8 ((bAt v8 v10) - (48 : Int)))))), (w64 (v10 + (1 : Int))))))))))) ((some (.out (Sum.inr (v8, v9))))))
noncomputable def spec_l1Read (a0 : ByteArray) : Option (Int × Bool) :=
  ((cond (decide ((1 : Int) < (a0.size : Int))) (grd (0 ≤ (0 : Int) ∧ (0 : Int) < (a0.size : Int)) (cond (decide ((bAt a0 (0 : Int)) = (45 : Int))) (grd (0 ≤ (1 : Int) ∧ (1 : Int) ≤ (a0.size : Int) ∧ (a0.size : Int) ≤ (a0.size : Int)) ((some (bsub a0 (1 : Int) (a0.size : Int))))) ((some a0)))) ((some a0))).bind fun z1 => ((spec_l1In (z1.size : Int) (1 : Int) (6 : Int)).bind fun y2 => (cond (!y2) ((some ((0 : Int), false))) ((iter (fun s => spec_l1Read_loop1 s.1 s.2.1 s.2.2) (z1, (0 : Int), (0 : Int))).bind (Sum.elim (fun _ => (some ((0 : Int), false))) (fun r13 => (cond (decide ((r13.1.size : Int) < (a0.size : Int))) ((spec_l1Num (w64 (0 - r13.2))).bind fun y14 => (cond (!decide (y14 = a0)) ((some ((0 : Int), false))) ((some ((w64 (0 - r13.2)), true))))) ((spec_l1Num r13.2).bind fun y15 => (cond (!decide (y15 = a0)) ((some ((0 : Int), false))) ((some (r13.2, true))))))))))))
def spec_l1Read.res (_ : ByteArray) (y : Int × Bool) : AV := (.tup [(.v (.int .i64 y.1)), (.bl y.2)])
def spec_l1Read.out (_ : ByteArray) (_ : Int × Bool) : List (Option LB) := []
def spec_l1Read.S (ar : List AV) (h : List (Option LB)) (r : AV) (h1 : List (Option LB)) : Prop := ∃ a0 y, spec_l1Read a0 = some y ∧ leL ar [(.v (.string a0))] ∧ leH h [] ∧ r = spec_l1Read.res a0 y ∧ h1 = spec_l1Read.out a0 y
theorem spec_l1Read.call {ar h a0 y} (H : spec_l1Read a0 = some y) (h0 : leLk ar [(.v (.string a0))] (leHk h [])) : spec_l1Read.S ar h (spec_l1Read.res a0 y) (spec_l1Read.out a0 y) := ⟨a0, y, H, (args_ok h0).1, (args_ok h0).2, rfl, rfl⟩
theorem spec_l1Read.spec (a0 y) (H : spec_l1Read a0 = some y) : Spec Tryz.prog 119 [(.v (.string a0))] [] (spec_l1Read.res a0 y) (spec_l1Read.out a0 y) := by
  refine spec_intro (G40_ok.at tok []) (ct := [(4, none), (11, some [0, 4, 5, 6, 33, 34, 35, 36, 37]), (14, some [0, 5, 50])]) Tryz.func119 rfl (by kernel_rfl) (by kernel_rfl) rfl ?_
  repeat' first
    | ((with_reducible refine eqg ?_); exact rfl)
    | ((with_reducible refine KOb.mk ?_); kernel_rfl)
    | ((with_reducible intro h); (repeat first | replace H := grd_k H | replace H := out_step H ‹_›); first | replace H := cond_t h H | replace H := cond_f h H | exact absurd h (by decide) | skip)
    | ((with_reducible refine Ob.mk ?_); first | (with_reducible rfl) | (first | ((repeat (first | (with_reducible exact grd_p H) | replace H := grd_k H | replace H := out_step H ‹_›)); done) | rfl | ((repeat (first | exact grd_p H | (have hp := grd_p H; exact hp) | replace H := grd_k H | replace H := out_step H ‹_› | (replace H := bind_some H; obtain ⟨_, _, H⟩ := H))); done) | (repeat (first | exact grd_p H | replace H := grd_k H | replace H := out_step H ‹_›))))
    | (with_reducible exact True.intro)
    | ((conv => whnf); first
        | (with_reducible refine And.intro ?_ ?_)
        | (with_reducible exact True.intro)
        | (with_reducible refine (?_ : Ob _))
        | ((with_reducible refine CallW.mk ?_); (repeat first | replace H := grd_k H | replace H := out_step H ‹_›); replace H := bind_some H; obtain ⟨y, hy, H⟩ := H; first | ((with_reducible have hz : spec_l1In _ _ _ = some y := hy); clear hz; refine ⟨_, _, spec_l1In.call hy ?_, rfl, rfl, ?_⟩) | ((with_reducible have hz : spec_l1Num _ = some y := hy); clear hz; refine ⟨_, _, spec_l1Num.call hy ?_, rfl, rfl, ?_⟩))
        | ((repeat first | replace H := grd_k H | replace H := out_step H ‹_›); refine loop_iter (G40_ok.at tok []) (ct := [(4, none), (11, some [0, 4, 5, 6, 33, 34, 35, 36, 37]), (14, some [0, 5, 50])]) (F := (fun s1 : ByteArray × Int × Int => ⟨sl [(0, (.v (.string a0))), (4, (.v (.string s1.1))), (5, (.v (.int .i64 s1.2.1))), (6, (.v (.int .i64 s1.2.2)))], []⟩)) (step := (fun s : ByteArray × Int × Int => spec_l1Read_loop1 s.1 s.2.1 s.2.2)) _ H (by kernel_rfl) (sub_auto ?_) ?_; rotate_left; (intro s1 r v hr H); rotate_right)
        | ((with_reducible refine cutAt (id := 4) ?_); (repeat first | replace H := grd_k H | replace H := out_step H ‹_›); first | (replace H := bind_some H; obtain ⟨z, hz, H⟩ := H; refine CutC.mk (id := 4) ⟨sl [(0, (.v (.string a0))), (4, (.v (.string z)))], []⟩ ?_ ?_; (replace H := hz)))
        | ((repeat first | replace H := grd_k H | replace H := out_step H ‹_›); have H := Option.some.inj H; subst H; with_reducible refine sub_auto ?_)
        | ((repeat first | replace H := grd_k H | replace H := out_step H ‹_›); refine again_step H (by assumption) (sub_auto ?_))
        | ((with_reducible refine fin_mk ?_); (repeat first | replace H := grd_k H | replace H := out_step H ‹_›); have H := Option.some.inj H; subst H))
    | constructor
def G41 : Env := G40.add 119 [] spec_l1Read.S
theorem G41_ok : EnvOk Tryz.prog G41 := G40_ok.add ent_119 fun ar h r h1 ⟨a0, y, hy, e1, e2, e3, e4⟩ => by
  subst e3 e4; exact (spec_l1Read.spec a0 y hy).le e1 e2
attribute [local irreducible] spec_l1Read

noncomputable def spec_ParseInt (a0 : ByteArray) : Option (Int × Bool) :=
  ((spec_l1Read a0).bind fun y1 => (some (y1.1, y1.2)))
def spec_ParseInt.res (_ : ByteArray) (y : Int × Bool) : AV := (.tup [(.v (.int .i64 y.1)), (.bl y.2)])
def spec_ParseInt.out (_ : ByteArray) (_ : Int × Bool) : List (Option LB) := []
def spec_ParseInt.S (ar : List AV) (h : List (Option LB)) (r : AV) (h1 : List (Option LB)) : Prop := ∃ a0 y, spec_ParseInt a0 = some y ∧ leL ar [(.v (.string a0))] ∧ leH h [] ∧ r = spec_ParseInt.res a0 y ∧ h1 = spec_ParseInt.out a0 y
theorem spec_ParseInt.call {ar h a0 y} (H : spec_ParseInt a0 = some y) (h0 : leLk ar [(.v (.string a0))] (leHk h [])) : spec_ParseInt.S ar h (spec_ParseInt.res a0 y) (spec_ParseInt.out a0 y) := ⟨a0, y, H, (args_ok h0).1, (args_ok h0).2, rfl, rfl⟩
theorem spec_ParseInt.spec (a0 y) (H : spec_ParseInt a0 = some y) : Spec Tryz.prog 80 [(.v (.string a0))] [] (spec_ParseInt.res a0 y) (spec_ParseInt.out a0 y) := by
  refine spec_intro (G41_ok.at tok []) (ct := []) Tryz.func80 rfl (by kernel_rfl) (by kernel_rfl) rfl ?_
  repeat' first
    | ((with_reducible refine eqg ?_); exact rfl)
    | ((with_reducible refine KOb.mk ?_); kernel_rfl)
    | ((with_reducible intro h); (repeat first | replace H := grd_k H | replace H := out_step H ‹_›); first | replace H := cond_t h H | replace H := cond_f h H | exact absurd h (by decide) | skip)
    | ((with_reducible refine Ob.mk ?_); first | (with_reducible rfl) | (first | ((repeat (first | (with_reducible exact grd_p H) | replace H := grd_k H | replace H := out_step H ‹_›)); done) | rfl | ((repeat (first | exact grd_p H | (have hp := grd_p H; exact hp) | replace H := grd_k H | replace H := out_step H ‹_› | (replace H := bind_some H; obtain ⟨_, _, H⟩ := H))); done) | (repeat (first | exact grd_p H | replace H := grd_k H | replace H := out_step H ‹_›))))
    | (with_reducible exact True.intro)
    | ((conv => whnf); first
        | (with_reducible refine And.intro ?_ ?_)
        | (with_reducible exact True.intro)
        | (with_reducible refine (?_ : Ob _))
        | ((with_reducible refine CallW.mk ?_); (repeat first | replace H := grd_k H | replace H := out_step H ‹_›); replace H := bind_some H; obtain ⟨y, hy, H⟩ := H; first | ((with_reducible have hz : spec_l1Read _ = some y := hy); clear hz; refine ⟨_, _, spec_l1Read.call hy ?_, rfl, rfl, ?_⟩))
        | ((with_reducible refine fin_mk ?_); (repeat first | replace H := grd_k H | replace H := out_step H ‹_›); have H := Option.some.inj H; subst H))
    | constructor
def G42 : Env := G41.add 80 [] spec_ParseInt.S
theorem G42_ok : EnvOk Tryz.prog G42 := G41_ok.add ent_80 fun ar h r h1 ⟨a0, y, hy, e1, e2, e3, e4⟩ => by
  subst e3 e4; exact (spec_ParseInt.spec a0 y hy).le e1 e2
attribute [local irreducible] spec_ParseInt

end Go.Proofs.YtaobinhdnklojaaGreatDoor
