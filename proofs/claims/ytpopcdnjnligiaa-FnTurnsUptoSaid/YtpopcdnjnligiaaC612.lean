/-
  Contracts, printed by a program.
-/
import Derived.Test.YtpopcdnjnligiaaC611
namespace Go.Proofs.Ytpopcdnjnligiaa
open Go.RowKit
attribute [local irreducible] Ob loopwp Sub Spec Fin Again CallW CutC KOb iter joinx outm

attribute [local irreducible] laws_vBig spec_l1Cur_next spec_l1Cur_pick spec_l1Cur_among spec_l1In spec_l25Slot

noncomputable def spec_l25Good_loop1 (a0 : Ropeway) (v9 : Int) : Option (Lp (Int) ((Unit) ⊕ (Unit))) :=
  (cond (decide (v9 < (a0.2.1.length : Int))) ((spec_l25Slot (a0.1, a0.2.1, a0.2.2.1, a0.2.2.2.1, a0.2.2.2.2.1, ()) v9).bind fun y10 => (cond (!y10) ((some (.out (Sum.inl ())))) (some (.go (w64 (v9 + (1 : Int))))))) ((some (.out (Sum.inr ())))))
noncomputable def spec_l25Good (a0 : Ropeway) : Option (Bool) :=
  ((spec_l1In a0.1 (0 : Int) (3 : Int)).bind fun y1 => (cond (!y1) ((some false)) ((spec_l1In (a0.2.1.length : Int) (4 : Int) (10 : Int)).bind fun y2 => (cond (!y2) ((some false)) (grd ((2 : Int) ≠ 0) (cond (!decide ((Int.tmod (a0.2.1.length : Int) (2 : Int)) = (0 : Int))) ((some false)) ((spec_l1In a0.2.2.1 (0 : Int) (500 : Int)).bind fun y3 => (cond (!y3) ((some false)) ((spec_l1In a0.2.2.2.1 (0 : Int) (500 : Int)).bind fun y4 => (cond (!y4) ((some false)) ((spec_l1In a0.2.2.2.2.1 (0 : Int) (500 : Int)).bind fun y5 => (cond (!y5) ((some false)) ((iter (fun s => spec_l25Good_loop1 a0 s) (0 : Int)).bind (Sum.elim (fun _ => (some false)) (fun _ => (some true))))))))))))))))
def spec_l25Good.res (_ : Ropeway) (y : Bool) : AV := (.bl y)
def spec_l25Good.out (_ : Ropeway) (_ : Bool) : List (Option LB) := []
def spec_l25Good.S (ar : List AV) (h : List (Option LB)) (r : AV) (h1 : List (Option LB)) : Prop := ∃ a0 y, spec_l25Good a0 = some y ∧ leL ar [(.agg [(.v (.int .i64 a0.1)), (.tree ty_Slot a0.2.1), (.v (.int .i64 a0.2.2.1)), (.v (.int .i64 a0.2.2.2.1)), (.v (.int .i64 a0.2.2.2.2.1))])] ∧ leH h [] ∧ r = spec_l25Good.res a0 y ∧ h1 = spec_l25Good.out a0 y
theorem spec_l25Good.call {ar : List AV} {h : List (Option LB)} {a0 : Ropeway} {y : Bool} (H : spec_l25Good a0 = some y) (h0 : leLk ar [(.agg [(.v (.int .i64 a0.1)), (.tree ty_Slot a0.2.1), (.v (.int .i64 a0.2.2.1)), (.v (.int .i64 a0.2.2.2.1)), (.v (.int .i64 a0.2.2.2.2.1))])] (leHk h [])) : spec_l25Good.S ar h (spec_l25Good.res a0 y) (spec_l25Good.out a0 y) := ⟨a0, y, H, (args_ok h0).1, (args_ok h0).2, rfl, rfl⟩
set_option maxHeartbeats 100000000 in
set_option maxRecDepth 100000 in
theorem spec_l25Good.spec (a0 : Ropeway) (y : Bool) (H : spec_l25Good a0 = some y) : Spec Try.prog 89 [(.agg [(.v (.int .i64 a0.1)), (.tree ty_Slot a0.2.1), (.v (.int .i64 a0.2.2.1)), (.v (.int .i64 a0.2.2.2.1)), (.v (.int .i64 a0.2.2.2.2.1))])] [] (spec_l25Good.res a0 y) (spec_l25Good.out a0 y) := by
  refine spec_intro (G6_ok.at tok []) (ct := [(3, some [1, 3, 39])]) Try.func89 rfl (by kernel_rfl) (by kernel_rfl) rfl ?_
  repeat' first
    | ((with_reducible refine eqg ?_); exact rfl)
    | ((with_reducible refine KOb.mk ?_); kernel_rfl)
    | ((with_reducible intro h); (repeat (first | replace H := grd_k H | replace H := out_step H (by assumption))); first | replace H := cond_t h H | replace H := cond_f h H | exact absurd h (by decide) | skip)
    | ((with_reducible refine Ob.mk ?_); first | (with_reducible rfl) | (first | ((repeat (first | (with_reducible exact grd_p H) | (replace H := grd_k H) | (replace H := out_step H (by assumption)))); done) | rfl | ((repeat (first | exact grd_p H | replace H := grd_k H | replace H := out_step H (by assumption))); done) | ((repeat (first | exact grd_p H | (have hp := grd_p H; exact hp) | replace H := grd_k H | replace H := out_step H (by assumption) | (replace H := bind_some H; obtain ⟨_, _, H⟩ := H))); done) | (repeat (first | exact grd_p H | replace H := grd_k H | replace H := out_step H (by assumption)))))
    | (with_reducible exact True.intro)
    | ((conv => whnf); first
        | (with_reducible refine And.intro ?_ ?_)
        | (with_reducible exact True.intro)
        | ((with_reducible refine Ob.mk ?_); first | (with_reducible rfl) | (first | ((repeat (first | (with_reducible exact grd_p H) | (replace H := grd_k H) | (replace H := out_step H (by assumption)))); done) | rfl | ((repeat (first | exact grd_p H | replace H := grd_k H | replace H := out_step H (by assumption))); done) | ((repeat (first | exact grd_p H | (have hp := grd_p H; exact hp) | replace H := grd_k H | replace H := out_step H (by assumption) | (replace H := bind_some H; obtain ⟨_, _, H⟩ := H))); done) | (repeat (first | exact grd_p H | replace H := grd_k H | replace H := out_step H (by assumption)))))
        | ((with_reducible refine CallW.mk ?_); (repeat (first | replace H := grd_k H | replace H := out_step H (by assumption))); replace H := bind_some H; obtain ⟨y, hy, H⟩ := H; first | ((with_reducible have hz : spec_l1In _ _ _ = some y := hy); clear hz; refine Exists.intro _ (Exists.intro _ ⟨spec_l1In.call hy ?_, rfl, rfl, ?_⟩)) | ((with_reducible have hz : spec_l25Slot _ _ = some y := hy); clear hz; refine Exists.intro _ (Exists.intro _ ⟨spec_l25Slot.call hy ?_, rfl, rfl, ?_⟩)))
        | ((repeat (first | replace H := grd_k H | replace H := out_step H (by assumption))); refine loop_iter (G6_ok.at tok []) (ct := [(3, some [1, 3, 39])]) (F := (fun s1 : Int => ⟨sl [(1, (.loc 0 0 0)), (3, (.v (.int .i64 (a0.2.1.length : Int)))), (4, (.v (.int .i64 s1)))], [some (.box 26 [(.v (.int .i64 a0.1)), (.tree ty_Slot a0.2.1), (.v (.int .i64 a0.2.2.1)), (.v (.int .i64 a0.2.2.2.1)), (.v (.int .i64 a0.2.2.2.2.1))])]⟩)) (step := (fun s : Int => spec_l25Good_loop1 _ s)) _ H (by kernel_rfl) (sub_auto ?_) ?_; rotate_left; (intro s1 r v hr H); rotate_right)
        | ((repeat (first | replace H := grd_k H | replace H := out_step H (by assumption))); refine again_step H (by assumption) (sub_auto ?_))
        | ((with_reducible refine fin_mk ?_); (repeat (first | replace H := grd_k H | replace H := out_step H (by assumption))); have H := Option.some.inj H; subst H))
    | constructor
def G7 : Env := G6.add 89 [] spec_l25Good.S
theorem G7_ok : EnvOk Try.prog G7 := G6_ok.add ent_89 fun ar h r h1 ⟨a0, y, hy, e1, e2, e3, e4⟩ => by
  subst e3 e4; exact (spec_l25Good.spec a0 y hy).le e1 e2
attribute [local irreducible] spec_l25Good

noncomputable def spec_NewRopeway (a0 : Int) (a1 : Int) : Option ((Ropeway) ⊕ (Ropeway)) :=
  ((spec_l1In a0 (4 : Int) (10 : Int)).bind fun y1 => (cond (!y1) ((some (Sum.inl ((0 : Int), [], (0 : Int), (0 : Int), (0 : Int), ())))) (grd (0 ≤ a0 ∧ a0 ≤ a0 ∧ (24 : Int) * a0 ≤ 140737488355328 ∧ a0 ≤ 140737488355328) ((spec_l25Good ((0 : Int), (List.replicate a0.toNat ((0 : Int), false, (0 : Int), ())), a1, (0 : Int), (0 : Int), ())).bind fun y2 => (cond (!y2) ((some (Sum.inl ((0 : Int), [], (0 : Int), (0 : Int), (0 : Int), ())))) ((some (Sum.inr ((0 : Int), (List.replicate a0.toNat ((0 : Int), false, (0 : Int), ())), a1, (0 : Int), (0 : Int), ())))))))))
def spec_NewRopeway.res (_ : Int) (_ : Int) (y : (Ropeway) ⊕ (Ropeway)) : AV := match y with
  | (.inl y) => (.tup [(.agg [(.v (.int .i64 y.1)), (.v (.slice none 0 0)), (.v (.int .i64 y.2.2.1)), (.v (.int .i64 y.2.2.2.1)), (.v (.int .i64 y.2.2.2.2.1))]), (.v (.bool false))])
  | (.inr y) => (.tup [(.agg [(.v (.int .i64 y.1)), (.own 0), (.v (.int .i64 y.2.2.1)), (.v (.int .i64 y.2.2.2.1)), (.v (.int .i64 y.2.2.2.2.1))]), (.v (.bool true))])
def spec_NewRopeway.out (_ : Int) (_ : Int) (y : (Ropeway) ⊕ (Ropeway)) : List (Option LB) := match y with
  | (.inl y) => []
  | (.inr y) => [some (.arr 41 ty_Slot y.2.1)]
def spec_NewRopeway.S (ar : List AV) (h : List (Option LB)) (r : AV) (h1 : List (Option LB)) : Prop := ∃ a0 a1 y, spec_NewRopeway a0 a1 = some y ∧ leL ar [(.v (.int .i64 a0)), (.v (.int .i64 a1))] ∧ leH h [] ∧ r = spec_NewRopeway.res a0 a1 y ∧ h1 = spec_NewRopeway.out a0 a1 y
theorem spec_NewRopeway.call {ar : List AV} {h : List (Option LB)} {a0 : Int} {a1 : Int} {y : (Ropeway) ⊕ (Ropeway)} (H : spec_NewRopeway a0 a1 = some y) (h0 : leLk ar [(.v (.int .i64 a0)), (.v (.int .i64 a1))] (leHk h [])) : spec_NewRopeway.S ar h (spec_NewRopeway.res a0 a1 y) (spec_NewRopeway.out a0 a1 y) := ⟨a0, a1, y, H, (args_ok h0).1, (args_ok h0).2, rfl, rfl⟩
set_option maxHeartbeats 100000000 in
set_option maxRecDepth 100000 in
theorem spec_NewRopeway.spec (a0 : Int) (a1 : Int) (y : (Ropeway) ⊕ (Ropeway)) (H : spec_NewRopeway a0 a1 = some y) : Spec Try.prog 24 [(.v (.int .i64 a0)), (.v (.int .i64 a1))] [] (spec_NewRopeway.res a0 a1 y) (spec_NewRopeway.out a0 a1 y) := by
  have hlen : Nat.ble ([] : List (Option LB)).length (spec_NewRopeway.out a0 a1 y).length = true := by
    rcases y with y | y <;> rfl
  refine spec_intro (G7_ok.at tok []) (ct := [(5, some [4, 6, 17])]) Try.func24 rfl (by kernel_rfl) (by kernel_rfl) hlen ?_
  repeat' first
    | ((with_reducible refine eqg ?_); exact rfl)
    | ((with_reducible refine KOb.mk ?_); kernel_rfl)
    | ((with_reducible intro h); (repeat (first | replace H := grd_k H | replace H := out_step H (by assumption))); first | replace H := cond_t h H | replace H := cond_f h H | exact absurd h (by decide) | skip)
    | ((with_reducible refine Ob.mk ?_); first | (with_reducible rfl) | (first | ((repeat (first | (with_reducible exact grd_p H) | (replace H := grd_k H) | (replace H := out_step H (by assumption)))); done) | rfl | ((repeat (first | exact grd_p H | replace H := grd_k H | replace H := out_step H (by assumption))); done) | ((repeat (first | exact grd_p H | (have hp := grd_p H; exact hp) | replace H := grd_k H | replace H := out_step H (by assumption) | (replace H := bind_some H; obtain ⟨_, _, H⟩ := H))); done) | (repeat (first | exact grd_p H | replace H := grd_k H | replace H := out_step H (by assumption)))))
    | (with_reducible exact True.intro)
    | ((conv => whnf); first
        | (with_reducible refine And.intro ?_ ?_)
        | (with_reducible exact True.intro)
        | ((with_reducible refine Ob.mk ?_); first | (with_reducible rfl) | (first | ((repeat (first | (with_reducible exact grd_p H) | (replace H := grd_k H) | (replace H := out_step H (by assumption)))); done) | rfl | ((repeat (first | exact grd_p H | replace H := grd_k H | replace H := out_step H (by assumption))); done) | ((repeat (first | exact grd_p H | (have hp := grd_p H; exact hp) | replace H := grd_k H | replace H := out_step H (by assumption) | (replace H := bind_some H; obtain ⟨_, _, H⟩ := H))); done) | (repeat (first | exact grd_p H | replace H := grd_k H | replace H := out_step H (by assumption)))))
        | ((with_reducible refine CallW.mk ?_); (repeat (first | replace H := grd_k H | replace H := out_step H (by assumption))); replace H := bind_some H; obtain ⟨y, hy, H⟩ := H; first | ((with_reducible have hz : spec_l1In _ _ _ = some y := hy); clear hz; refine Exists.intro _ (Exists.intro _ ⟨spec_l1In.call hy ?_, rfl, rfl, ?_⟩)) | ((with_reducible have hz : spec_l25Good _ = some y := hy); clear hz; refine Exists.intro _ (Exists.intro _ ⟨spec_l25Good.call hy ?_, rfl, rfl, ?_⟩)))
        | ((with_reducible refine fin_mk ?_); (repeat (first | replace H := grd_k H | replace H := out_step H (by assumption))); have H := Option.some.inj H; subst H))
    | constructor
def G8 : Env := G7.add 24 [] spec_NewRopeway.S
theorem G8_ok : EnvOk Try.prog G8 := G7_ok.add ent_24 fun ar h r h1 ⟨a0, a1, y, hy, e1, e2, e3, e4⟩ => by
  subst e3 e4; exact (spec_NewRopeway.spec a0 a1 y hy).le e1 e2
attribute [local irreducible] spec_NewRopeway

noncomputable def spec_l25Open_loop1 (a0 : Ropeway) (v3 : Int) (v4 : (List Int)) : Option (Lp (Int × (List Int)) (((List Int)))) :=
  (cond (decide (v3 < (a0.2.1.length : Int))) (grd (0 ≤ v3 ∧ v3 < (a0.2.1.length : Int)) (cond ((a0.2.1.getD v3.toNat d_Slot).2.1) (grd (v4.length + [v3].length ≤ 140737488355328 / 8 ∧ v4.length + [v3].length ≤ 140737488355328) (some (.go ((w64 (v3 + (1 : Int))), (v4 ++ [v3]))))) (some (.go ((w64 (v3 + (1 : Int))), v4))))) ((some (.out v4))))
noncomputable def spec_l25Open (a0 : Ropeway) : Option ((List Int)) :=
  ((iter (fun s => spec_l25Open_loop1 a0 s.1 s.2) ((0 : Int), ([] : List Int))).bind (fun r5 => (some r5)))
def spec_l25Open.res (_ : Ropeway) (_ : (List Int)) : AV := (.own 0)
def spec_l25Open.out (_ : Ropeway) (y : (List Int)) : List (Option LB) := [some (.arr 3 (.int .i64) y)]
def spec_l25Open.S (ar : List AV) (h : List (Option LB)) (r : AV) (h1 : List (Option LB)) : Prop := ∃ a0 y, spec_l25Open a0 = some y ∧ leL ar [(.agg [(.v (.int .i64 a0.1)), (.tree ty_Slot a0.2.1), (.v (.int .i64 a0.2.2.1)), (.v (.int .i64 a0.2.2.2.1)), (.v (.int .i64 a0.2.2.2.2.1))])] ∧ leH h [] ∧ r = spec_l25Open.res a0 y ∧ h1 = spec_l25Open.out a0 y
theorem spec_l25Open.call {ar : List AV} {h : List (Option LB)} {a0 : Ropeway} {y : (List Int)} (H : spec_l25Open a0 = some y) (h0 : leLk ar [(.agg [(.v (.int .i64 a0.1)), (.tree ty_Slot a0.2.1), (.v (.int .i64 a0.2.2.1)), (.v (.int .i64 a0.2.2.2.1)), (.v (.int .i64 a0.2.2.2.2.1))])] (leHk h [])) : spec_l25Open.S ar h (spec_l25Open.res a0 y) (spec_l25Open.out a0 y) := ⟨a0, y, H, (args_ok h0).1, (args_ok h0).2, rfl, rfl⟩
set_option maxHeartbeats 100000000 in
set_option maxRecDepth 100000 in
theorem spec_l25Open.spec (a0 : Ropeway) (y : (List Int)) (H : spec_l25Open a0 = some y) : Spec Try.prog 108 [(.agg [(.v (.int .i64 a0.1)), (.tree ty_Slot a0.2.1), (.v (.int .i64 a0.2.2.1)), (.v (.int .i64 a0.2.2.2.1)), (.v (.int .i64 a0.2.2.2.2.1))])] [] (spec_l25Open.res a0 y) (spec_l25Open.out a0 y) := by
  refine spec_intro (G8_ok.at tok []) (ct := [(4, some [1, 3, 4])]) Try.func108 rfl (by kernel_rfl) (by kernel_rfl) rfl ?_
  repeat' first
    | ((with_reducible refine eqg ?_); exact rfl)
    | ((with_reducible refine KOb.mk ?_); kernel_rfl)
    | ((with_reducible intro h); (repeat (first | replace H := grd_k H | replace H := out_step H (by assumption))); first | replace H := cond_t h H | replace H := cond_f h H | exact absurd h (by decide) | skip)
    | ((with_reducible refine Ob.mk ?_); first | (with_reducible rfl) | (first | ((repeat (first | (with_reducible exact grd_p H) | (replace H := grd_k H) | (replace H := out_step H (by assumption)))); done) | rfl | ((repeat (first | exact grd_p H | replace H := grd_k H | replace H := out_step H (by assumption))); done) | ((repeat (first | exact grd_p H | (have hp := grd_p H; exact hp) | replace H := grd_k H | replace H := out_step H (by assumption) | (replace H := bind_some H; obtain ⟨_, _, H⟩ := H))); done) | (repeat (first | exact grd_p H | replace H := grd_k H | replace H := out_step H (by assumption)))))
    | (with_reducible exact True.intro)
    | ((conv => whnf); first
        | (with_reducible refine And.intro ?_ ?_)
        | (with_reducible exact True.intro)
        | ((with_reducible refine Ob.mk ?_); first | (with_reducible rfl) | (first | ((repeat (first | (with_reducible exact grd_p H) | (replace H := grd_k H) | (replace H := out_step H (by assumption)))); done) | rfl | ((repeat (first | exact grd_p H | replace H := grd_k H | replace H := out_step H (by assumption))); done) | ((repeat (first | exact grd_p H | (have hp := grd_p H; exact hp) | replace H := grd_k H | replace H := out_step H (by assumption) | (replace H := bind_some H; obtain ⟨_, _, H⟩ := H))); done) | (repeat (first | exact grd_p H | replace H := grd_k H | replace H := out_step H (by assumption)))))
        | ((repeat (first | replace H := grd_k H | replace H := out_step H (by assumption))); refine loop_iter (G8_ok.at tok []) (ct := [(4, some [1, 3, 4])]) (F := (fun s1 : Int × (List Int) => ⟨sl [(1, (.loc 0 0 0)), (3, (.own 1)), (4, (.v (.int .i64 s1.1)))], [some (.box 26 [(.v (.int .i64 a0.1)), (.tree ty_Slot a0.2.1), (.v (.int .i64 a0.2.2.1)), (.v (.int .i64 a0.2.2.2.1)), (.v (.int .i64 a0.2.2.2.2.1))]), some (.arr 3 (.int .i64) s1.2)]⟩)) (step := (fun s : Int × (List Int) => spec_l25Open_loop1 _ s.1 s.2)) _ H (by kernel_rfl) (sub_auto ?_) ?_; rotate_left; (intro s1 r v hr H); rotate_right)
        | ((repeat (first | replace H := grd_k H | replace H := out_step H (by assumption))); refine again_step H (by assumption) (sub_auto ?_))
        | ((with_reducible refine fin_mk ?_); (repeat (first | replace H := grd_k H | replace H := out_step H (by assumption))); have H := Option.some.inj H; subst H))
    | constructor
def G9 : Env := G8.add 108 [] spec_l25Open.S
theorem G9_ok : EnvOk Try.prog G9 := G8_ok.add ent_108 fun ar h r h1 ⟨a0, y, hy, e1, e2, e3, e4⟩ => by
  subst e3 e4; exact (spec_l25Open.spec a0 y hy).le e1 e2
attribute [local irreducible] spec_l25Open

noncomputable def spec_l1Cur_one (a0 : l1Cur) (a1 : Int) : Option (Bool × l1Cur) :=
  ((spec_l1Cur_pick (a0.1, a0.2.1, a0.2.2.1, ()) a1).bind fun y1 => (some ((decide (y1.1 = (0 : Int))), (y1.2.1, y1.2.2.1, y1.2.2.2.1, ()))))
def spec_l1Cur_one.res (_ : l1Cur) (_ : Int) (y : Bool × l1Cur) : AV := (.bl y.1)
def spec_l1Cur_one.out (_ : l1Cur) (_ : Int) (y : Bool × l1Cur) : List (Option LB) := [some (.box 115 [(.tree (.int .u8) y.2.1), (.v (.int .i64 y.2.2.1)), (.v (.int .u64 y.2.2.2.1))])]
def spec_l1Cur_one.S (ar : List AV) (h : List (Option LB)) (r : AV) (h1 : List (Option LB)) : Prop := ∃ a0 a1 y, spec_l1Cur_one a0 a1 = some y ∧ leL ar [(.loc 0 0 0), (.v (.int .i64 a1))] ∧ leH h [some (.box 115 [(.tree (.int .u8) a0.1), (.v (.int .i64 a0.2.1)), (.v (.int .u64 a0.2.2.1))])] ∧ r = spec_l1Cur_one.res a0 a1 y ∧ h1 = spec_l1Cur_one.out a0 a1 y
theorem spec_l1Cur_one.call {ar : List AV} {h : List (Option LB)} {a0 : l1Cur} {a1 : Int} {y : Bool × l1Cur} (H : spec_l1Cur_one a0 a1 = some y) (h0 : leLk ar [(.loc 0 0 0), (.v (.int .i64 a1))] (leHk h [some (.box 115 [(.tree (.int .u8) a0.1), (.v (.int .i64 a0.2.1)), (.v (.int .u64 a0.2.2.1))])])) : spec_l1Cur_one.S ar h (spec_l1Cur_one.res a0 a1 y) (spec_l1Cur_one.out a0 a1 y) := ⟨a0, a1, y, H, (args_ok h0).1, (args_ok h0).2, rfl, rfl⟩
set_option maxHeartbeats 100000000 in
set_option maxRecDepth 100000 in
theorem spec_l1Cur_one.spec (a0 : l1Cur) (a1 : Int) (y : Bool × l1Cur) (H : spec_l1Cur_one a0 a1 = some y) : Spec Try.prog 99 [(.loc 0 0 0), (.v (.int .i64 a1))] [some (.box 115 [(.tree (.int .u8) a0.1), (.v (.int .i64 a0.2.1)), (.v (.int .u64 a0.2.2.1))])] (spec_l1Cur_one.res a0 a1 y) (spec_l1Cur_one.out a0 a1 y) := by
  refine spec_intro (G9_ok.at tok []) (ct := []) Try.func99 rfl (by kernel_rfl) (by kernel_rfl) rfl ?_
  repeat' first
    | ((with_reducible refine eqg ?_); exact rfl)
    | ((with_reducible refine KOb.mk ?_); kernel_rfl)
    | ((with_reducible intro h); (repeat (first | replace H := grd_k H | replace H := out_step H (by assumption))); first | replace H := cond_t h H | replace H := cond_f h H | exact absurd h (by decide) | skip)
    | ((with_reducible refine Ob.mk ?_); first | (with_reducible rfl) | (first | ((repeat (first | (with_reducible exact grd_p H) | (replace H := grd_k H) | (replace H := out_step H (by assumption)))); done) | rfl | ((repeat (first | exact grd_p H | replace H := grd_k H | replace H := out_step H (by assumption))); done) | ((repeat (first | exact grd_p H | (have hp := grd_p H; exact hp) | replace H := grd_k H | replace H := out_step H (by assumption) | (replace H := bind_some H; obtain ⟨_, _, H⟩ := H))); done) | (repeat (first | exact grd_p H | replace H := grd_k H | replace H := out_step H (by assumption)))))
    | (with_reducible exact True.intro)
    | ((conv => whnf); first
        | (with_reducible refine And.intro ?_ ?_)
        | (with_reducible exact True.intro)
        | ((with_reducible refine Ob.mk ?_); first | (with_reducible rfl) | (first | ((repeat (first | (with_reducible exact grd_p H) | (replace H := grd_k H) | (replace H := out_step H (by assumption)))); done) | rfl | ((repeat (first | exact grd_p H | replace H := grd_k H | replace H := out_step H (by assumption))); done) | ((repeat (first | exact grd_p H | (have hp := grd_p H; exact hp) | replace H := grd_k H | replace H := out_step H (by assumption) | (replace H := bind_some H; obtain ⟨_, _, H⟩ := H))); done) | (repeat (first | exact grd_p H | replace H := grd_k H | replace H := out_step H (by assumption)))))
        | ((with_reducible refine CallW.mk ?_); (repeat (first | replace H := grd_k H | replace H := out_step H (by assumption))); replace H := bind_some H; obtain ⟨y, hy, H⟩ := H; first | ((with_reducible have hz : spec_l1Cur_pick _ _ = some y := hy); clear hz; refine Exists.intro _ (Exists.intro _ ⟨spec_l1Cur_pick.call hy ?_, rfl, rfl, ?_⟩)))
        | ((with_reducible refine fin_mk ?_); (repeat (first | replace H := grd_k H | replace H := out_step H (by assumption))); have H := Option.some.inj H; subst H))
    | constructor
def G10 : Env := G9.add 99 [true] spec_l1Cur_one.S
theorem G10_ok : EnvOk Try.prog G10 := G9_ok.add ent_99 fun ar h r h1 ⟨a0, a1, y, hy, e1, e2, e3, e4⟩ => by
  subst e3 e4; exact (spec_l1Cur_one.spec a0 a1 y hy).le e1 e2
attribute [local irreducible] spec_l1Cur_one

noncomputable def spec_l1Cur_ropeStep (a0 : l1Cur) (a1 : Ropeway) : Option (RopeStep × l1Cur × (List Slot)) :=
  ((spec_l1Cur_pick (a0.1, a0.2.1, a0.2.2.1, ()) (12 : Int)).bind fun y1 => (cond (decide (y1.1 = (0 : Int))) ((spec_l1Cur_among (y1.2.1, y1.2.2.1, y1.2.2.2.1, ()) [(0 : Int), (1 : Int), (1 : Int), (2 : Int), (3 : Int)]).bind fun y2 => (some (((1 : Int), y2.1, ()), (y2.2.1, y2.2.2.1, y2.2.2.2.1, ()), a1.2.1))) ((cond (decide (y1.1 = (1 : Int))) ((some (y1.1, true, y1.2.1, y1.2.2.1, y1.2.2.2.1))) (cond (decide (y1.1 = (2 : Int))) ((some (y1.1, true, y1.2.1, y1.2.2.1, y1.2.2.2.1))) ((some (y1.1, (decide (y1.1 = (3 : Int))), y1.2.1, y1.2.2.1, y1.2.2.2.1))))).bind fun z3 => (cond z3.2.1 (cond (decide ((0 : Int) < (a1.2.1.length : Int))) ((spec_l25Open (a1.1, a1.2.1, a1.2.2.1, a1.2.2.2.1, a1.2.2.2.2.1, ())).bind fun y4 => (cond (decide ((y4.length : Int) = (0 : Int))) (cond (decide (a1.1 = (0 : Int))) ((some (((1 : Int), (1 : Int), ()), (z3.2.2.1, z3.2.2.2.1, z3.2.2.2.2, ()), a1.2.1))) ((some (((2 : Int), (0 : Int), ()), (z3.2.2.1, z3.2.2.2.1, z3.2.2.2.2, ()), a1.2.1)))) ((some (((2 : Int), (0 : Int), ()), (z3.2.2.1, z3.2.2.2.1, z3.2.2.2.2, ()), a1.2.1))))) ((some (((2 : Int), (0 : Int), ()), (z3.2.2.1, z3.2.2.2.1, z3.2.2.2.2, ()), a1.2.1)))) (cond (decide (z3.1 = (4 : Int))) ((spec_l1Cur_among (z3.2.2.1, z3.2.2.2.1, z3.2.2.2.2, ()) [(1 : Int), (2 : Int), (3 : Int), (20 : Int), (21 : Int)]).bind fun y5 => (some (((3 : Int), y5.1, ()), (y5.2.1, y5.2.2.1, y5.2.2.2.1, ()), a1.2.1))) (cond (decide (z3.1 = (5 : Int))) ((spec_l1Cur_one (z3.2.2.1, z3.2.2.2.1, z3.2.2.2.2, ()) (3 : Int)).bind fun y6 => (cond y6.1 ((some (((4 : Int), (0 : Int), ()), (y6.2.1, y6.2.2.1, y6.2.2.2.1, ()), a1.2.1))) ((spec_l1Cur_one (y6.2.1, y6.2.2.1, y6.2.2.2.1, ()) (20 : Int)).bind fun y7 => (cond y7.1 ((spec_l1Cur_among (y7.2.1, y7.2.2.1, y7.2.2.2.1, ()) [(0 : Int), (8 : Int), (2 : Int)]).bind fun y8 => ((spec_l1Cur_among (y8.2.1, y8.2.2.1, y8.2.2.2.1, ()) [((-1) : Int), (2 : Int), (0 : Int)]).bind fun y9 => (some ((y8.1, y9.1, ()), (y9.2.1, y9.2.2.1, y9.2.2.2.1, ()), a1.2.1)))) ((spec_l1Cur_pick (y7.2.1, y7.2.2.1, y7.2.2.2.1, ()) (2 : Int)).bind fun y10 => (some (((5 : Int), y10.1, ()), (y10.2.1, y10.2.2.1, y10.2.2.2.1, ()), a1.2.1))))))) (cond (decide (z3.1 = (6 : Int))) ((spec_l1Cur_pick (z3.2.2.1, z3.2.2.2.1, z3.2.2.2.2, ()) (2 : Int)).bind fun y11 => (some (((6 : Int), y11.1, ()), (y11.2.1, y11.2.2.1, y11.2.2.2.1, ()), a1.2.1))) (cond (decide (z3.1 = (7 : Int))) ((spec_l1Cur_pick (z3.2.2.1, z3.2.2.2.1, z3.2.2.2.2, ()) (2 : Int)).bind fun y12 => (some (((7 : Int), y12.1, ()), (y12.2.1, y12.2.2.1, y12.2.2.2.1, ()), a1.2.1))) (cond (decide (z3.1 = (8 : Int))) ((spec_l1Cur_pick (z3.2.2.1, z3.2.2.2.1, z3.2.2.2.2, ()) (2 : Int)).bind fun y13 => (some (((7 : Int), y13.1, ()), (y13.2.1, y13.2.2.1, y13.2.2.2.1, ()), a1.2.1))) ((spec_l1Cur_one (z3.2.2.1, z3.2.2.2.1, z3.2.2.2.2, ()) (20 : Int)).bind fun y14 => (cond y14.1 ((spec_l1Cur_among (y14.2.1, y14.2.2.1, y14.2.2.2.1, ()) [(0 : Int), (8 : Int), (2 : Int)]).bind fun y15 => ((spec_l1Cur_among (y15.2.1, y15.2.2.1, y15.2.2.2.1, ()) [((-1) : Int), (2 : Int), (0 : Int)]).bind fun y16 => (some ((y15.1, y16.1, ()), (y16.2.1, y16.2.2.1, y16.2.2.2.1, ()), a1.2.1)))) ((spec_l1Cur_pick (y14.2.1, y14.2.2.1, y14.2.2.2.1, ()) (2 : Int)).bind fun y17 => (some (((5 : Int), y17.1, ()), (y17.2.1, y17.2.2.1, y17.2.2.2.1, ()), a1.2.1))))))))))))))
def spec_l1Cur_ropeStep.res (_ : l1Cur) (_ : Ropeway) (y : RopeStep × l1Cur × (List Slot)) : AV := (.agg [(.v (.int .i64 y.1.1)), (.v (.int .i64 y.1.2.1))])
def spec_l1Cur_ropeStep.out (_ : l1Cur) (_ : Ropeway) (y : RopeStep × l1Cur × (List Slot)) : List (Option LB) := [some (.box 115 [(.tree (.int .u8) y.2.1.1), (.v (.int .i64 y.2.1.2.1)), (.v (.int .u64 y.2.1.2.2.1))]), some (.arr 41 ty_Slot y.2.2)]
def spec_l1Cur_ropeStep.S (ar : List AV) (h : List (Option LB)) (r : AV) (h1 : List (Option LB)) : Prop := ∃ a0 a1 y, spec_l1Cur_ropeStep a0 a1 = some y ∧ leL ar [(.loc 0 0 0), (.agg [(.v (.int .i64 a1.1)), (.own 1), (.v (.int .i64 a1.2.2.1)), (.v (.int .i64 a1.2.2.2.1)), (.v (.int .i64 a1.2.2.2.2.1))])] ∧ leH h [some (.box 115 [(.tree (.int .u8) a0.1), (.v (.int .i64 a0.2.1)), (.v (.int .u64 a0.2.2.1))]), some (.arr 41 ty_Slot a1.2.1)] ∧ r = spec_l1Cur_ropeStep.res a0 a1 y ∧ h1 = spec_l1Cur_ropeStep.out a0 a1 y
theorem spec_l1Cur_ropeStep.call {ar : List AV} {h : List (Option LB)} {a0 : l1Cur} {a1 : Ropeway} {y : RopeStep × l1Cur × (List Slot)} (H : spec_l1Cur_ropeStep a0 a1 = some y) (h0 : leLk ar [(.loc 0 0 0), (.agg [(.v (.int .i64 a1.1)), (.own 1), (.v (.int .i64 a1.2.2.1)), (.v (.int .i64 a1.2.2.2.1)), (.v (.int .i64 a1.2.2.2.2.1))])] (leHk h [some (.box 115 [(.tree (.int .u8) a0.1), (.v (.int .i64 a0.2.1)), (.v (.int .u64 a0.2.2.1))]), some (.arr 41 ty_Slot a1.2.1)])) : spec_l1Cur_ropeStep.S ar h (spec_l1Cur_ropeStep.res a0 a1 y) (spec_l1Cur_ropeStep.out a0 a1 y) := ⟨a0, a1, y, H, (args_ok h0).1, (args_ok h0).2, rfl, rfl⟩
set_option maxHeartbeats 100000000 in
set_option maxRecDepth 100000 in
theorem spec_l1Cur_ropeStep.spec (a0 : l1Cur) (a1 : Ropeway) (y : RopeStep × l1Cur × (List Slot)) (H : spec_l1Cur_ropeStep a0 a1 = some y) : Spec Try.prog 87 [(.loc 0 0 0), (.agg [(.v (.int .i64 a1.1)), (.own 1), (.v (.int .i64 a1.2.2.1)), (.v (.int .i64 a1.2.2.2.1)), (.v (.int .i64 a1.2.2.2.2.1))])] [some (.box 115 [(.tree (.int .u8) a0.1), (.v (.int .i64 a0.2.1)), (.v (.int .u64 a0.2.2.1))]), some (.arr 41 ty_Slot a1.2.1)] (spec_l1Cur_ropeStep.res a0 a1 y) (spec_l1Cur_ropeStep.out a0 a1 y) := by
  refine spec_intro (G10_ok.at tok []) (ct := [(7, none), (8, some [4, 31]), (21, some [0, 4, 57])]) Try.func87 rfl (by kernel_rfl) (by kernel_rfl) rfl ?_
  repeat' first
    | ((with_reducible refine eqg ?_); exact rfl)
    | ((with_reducible refine KOb.mk ?_); kernel_rfl)
    | ((with_reducible intro h); (repeat (first | replace H := grd_k H | replace H := out_step H (by assumption))); first | replace H := cond_t h H | replace H := cond_f h H | exact absurd h (by decide) | skip)
    | ((with_reducible refine Ob.mk ?_); first | (with_reducible rfl) | (first | ((repeat (first | (with_reducible exact grd_p H) | (replace H := grd_k H) | (replace H := out_step H (by assumption)))); done) | rfl | ((repeat (first | exact grd_p H | replace H := grd_k H | replace H := out_step H (by assumption))); done) | ((repeat (first | exact grd_p H | (have hp := grd_p H; exact hp) | replace H := grd_k H | replace H := out_step H (by assumption) | (replace H := bind_some H; obtain ⟨_, _, H⟩ := H))); done) | (repeat (first | exact grd_p H | replace H := grd_k H | replace H := out_step H (by assumption)))))
    | (with_reducible exact True.intro)
    | ((conv => whnf); first
        | (with_reducible refine And.intro ?_ ?_)
        | (with_reducible exact True.intro)
        | ((with_reducible refine Ob.mk ?_); first | (with_reducible rfl) | (first | ((repeat (first | (with_reducible exact grd_p H) | (replace H := grd_k H) | (replace H := out_step H (by assumption)))); done) | rfl | ((repeat (first | exact grd_p H | replace H := grd_k H | replace H := out_step H (by assumption))); done) | ((repeat (first | exact grd_p H | (have hp := grd_p H; exact hp) | replace H := grd_k H | replace H := out_step H (by assumption) | (replace H := bind_some H; obtain ⟨_, _, H⟩ := H))); done) | (repeat (first | exact grd_p H | replace H := grd_k H | replace H := out_step H (by assumption)))))
        | ((with_reducible refine CallW.mk ?_); (repeat (first | replace H := grd_k H | replace H := out_step H (by assumption))); replace H := bind_some H; obtain ⟨y, hy, H⟩ := H; first | ((with_reducible have hz : spec_l1Cur_pick _ _ = some y := hy); clear hz; refine Exists.intro _ (Exists.intro _ ⟨spec_l1Cur_pick.call hy ?_, rfl, rfl, ?_⟩)) | ((with_reducible have hz : spec_l1Cur_among _ _ = some y := hy); clear hz; refine Exists.intro _ (Exists.intro _ ⟨spec_l1Cur_among.call hy ?_, rfl, rfl, ?_⟩)) | ((with_reducible have hz : spec_l25Open _ = some y := hy); clear hz; refine Exists.intro _ (Exists.intro _ ⟨spec_l25Open.call hy ?_, rfl, rfl, ?_⟩)) | ((with_reducible have hz : spec_l1Cur_one _ _ = some y := hy); clear hz; refine Exists.intro _ (Exists.intro _ ⟨spec_l1Cur_one.call hy ?_, rfl, rfl, ?_⟩)))
        | ((with_reducible refine cutAt (id := 7) ?_); (repeat (first | replace H := grd_k H | replace H := out_step H (by assumption))); first | (replace H := bind_some H; obtain ⟨z, hz, H⟩ := H; refine CutC.mk (id := 7) ⟨sl [(0, (.loc 0 0 0)), (3, (.loc 2 0 0)), (4, (.loc 3 0 0)), (6, (.v (.int .i64 z.1))), (13, (.bl z.2.1))], [some (.box 115 [(.tree (.int .u8) z.2.2.1), (.v (.int .i64 z.2.2.2.1)), (.v (.int .u64 z.2.2.2.2))]), some (.arr 41 ty_Slot a1.2.1), some (.box 26 [(.v (.int .i64 a1.1)), (.own 1), (.v (.int .i64 a1.2.2.1)), (.v (.int .i64 a1.2.2.2.1)), (.v (.int .i64 a1.2.2.2.2.1))]), some (.box 28 [(.v (.int .i64 (0 : Int))), (.v (.int .i64 (0 : Int)))])]⟩ ?_ ?_; (replace H := hz)))
        | ((repeat (first | replace H := grd_k H | replace H := out_step H (by assumption))); have H := Option.some.inj H; subst H; with_reducible refine sub_auto ?_)
        | ((with_reducible refine fin_mk ?_); (repeat (first | replace H := grd_k H | replace H := out_step H (by assumption))); have H := Option.some.inj H; subst H))
    | constructor
def G11 : Env := G10.add 87 [true, true] spec_l1Cur_ropeStep.S
theorem G11_ok : EnvOk Try.prog G11 := G10_ok.add ent_87 fun ar h r h1 ⟨a0, a1, y, hy, e1, e2, e3, e4⟩ => by
  subst e3 e4; exact (spec_l1Cur_ropeStep.spec a0 a1 y hy).le e1 e2
attribute [local irreducible] spec_l1Cur_ropeStep

noncomputable def spec_l25Step (a0 : RopeStep) : Option (Bool) :=
  (cond (decide (a0.1 = (1 : Int))) ((spec_l1In a0.2.1 (0 : Int) (3 : Int)).bind fun y1 => (some y1)) ((cond (decide (a0.1 = (2 : Int))) ((some true)) ((some (decide (a0.1 = (4 : Int)))))).bind fun z2 => (cond z2 ((some (decide (a0.2.1 = (0 : Int))))) (cond (decide (a0.1 = (3 : Int))) ((spec_l1In a0.2.1 (1 : Int) (20 : Int)).bind fun y3 => (some y3)) ((spec_l1In a0.1 (5 : Int) (7 : Int)).bind fun y4 => (cond y4 ((spec_l1In a0.2.1 (0 : Int) (1 : Int)).bind fun y5 => (some y5)) ((some false))))))))
def spec_l25Step.res (_ : RopeStep) (y : Bool) : AV := (.bl y)
def spec_l25Step.out (_ : RopeStep) (_ : Bool) : List (Option LB) := []
def spec_l25Step.S (ar : List AV) (h : List (Option LB)) (r : AV) (h1 : List (Option LB)) : Prop := ∃ a0 y, spec_l25Step a0 = some y ∧ leL ar [(.agg [(.v (.int .i64 a0.1)), (.v (.int .i64 a0.2.1))])] ∧ leH h [] ∧ r = spec_l25Step.res a0 y ∧ h1 = spec_l25Step.out a0 y
theorem spec_l25Step.call {ar : List AV} {h : List (Option LB)} {a0 : RopeStep} {y : Bool} (H : spec_l25Step a0 = some y) (h0 : leLk ar [(.agg [(.v (.int .i64 a0.1)), (.v (.int .i64 a0.2.1))])] (leHk h [])) : spec_l25Step.S ar h (spec_l25Step.res a0 y) (spec_l25Step.out a0 y) := ⟨a0, y, H, (args_ok h0).1, (args_ok h0).2, rfl, rfl⟩
set_option maxHeartbeats 100000000 in
set_option maxRecDepth 100000 in
theorem spec_l25Step.spec (a0 : RopeStep) (y : Bool) (H : spec_l25Step a0 = some y) : Spec Try.prog 90 [(.agg [(.v (.int .i64 a0.1)), (.v (.int .i64 a0.2.1))])] [] (spec_l25Step.res a0 y) (spec_l25Step.out a0 y) := by
  refine spec_intro (G11_ok.at tok []) (ct := [(6, none)]) Try.func90 rfl (by kernel_rfl) (by kernel_rfl) rfl ?_
  repeat' first
    | ((with_reducible refine eqg ?_); exact rfl)
    | ((with_reducible refine KOb.mk ?_); kernel_rfl)
    | ((with_reducible intro h); (repeat (first | replace H := grd_k H | replace H := out_step H (by assumption))); first | replace H := cond_t h H | replace H := cond_f h H | exact absurd h (by decide) | skip)
    | ((with_reducible refine Ob.mk ?_); first | (with_reducible rfl) | (first | ((repeat (first | (with_reducible exact grd_p H) | (replace H := grd_k H) | (replace H := out_step H (by assumption)))); done) | rfl | ((repeat (first | exact grd_p H | replace H := grd_k H | replace H := out_step H (by assumption))); done) | ((repeat (first | exact grd_p H | (have hp := grd_p H; exact hp) | replace H := grd_k H | replace H := out_step H (by assumption) | (replace H := bind_some H; obtain ⟨_, _, H⟩ := H))); done) | (repeat (first | exact grd_p H | replace H := grd_k H | replace H := out_step H (by assumption)))))
    | (with_reducible exact True.intro)
    | ((conv => whnf); first
        | (with_reducible refine And.intro ?_ ?_)
        | (with_reducible exact True.intro)
        | ((with_reducible refine Ob.mk ?_); first | (with_reducible rfl) | (first | ((repeat (first | (with_reducible exact grd_p H) | (replace H := grd_k H) | (replace H := out_step H (by assumption)))); done) | rfl | ((repeat (first | exact grd_p H | replace H := grd_k H | replace H := out_step H (by assumption))); done) | ((repeat (first | exact grd_p H | (have hp := grd_p H; exact hp) | replace H := grd_k H | replace H := out_step H (by assumption) | (replace H := bind_some H; obtain ⟨_, _, H⟩ := H))); done) | (repeat (first | exact grd_p H | replace H := grd_k H | replace H := out_step H (by assumption)))))
        | ((with_reducible refine CallW.mk ?_); (repeat (first | replace H := grd_k H | replace H := out_step H (by assumption))); replace H := bind_some H; obtain ⟨y, hy, H⟩ := H; first | ((with_reducible have hz : spec_l1In _ _ _ = some y := hy); clear hz; refine Exists.intro _ (Exists.intro _ ⟨spec_l1In.call hy ?_, rfl, rfl, ?_⟩)))
        | ((with_reducible refine cutAt (id := 6) ?_); (repeat (first | replace H := grd_k H | replace H := out_step H (by assumption))); first | (replace H := bind_some H; obtain ⟨z, hz, H⟩ := H; refine CutC.mk (id := 6) ⟨sl [(1, (.loc 0 0 0)), (4, (.v (.int .i64 a0.1))), (10, (.bl z))], [some (.box 28 [(.v (.int .i64 a0.1)), (.v (.int .i64 a0.2.1))])]⟩ ?_ ?_; (replace H := hz)))
        | ((repeat (first | replace H := grd_k H | replace H := out_step H (by assumption))); have H := Option.some.inj H; subst H; with_reducible refine sub_auto ?_)
        | ((with_reducible refine fin_mk ?_); (repeat (first | replace H := grd_k H | replace H := out_step H (by assumption))); have H := Option.some.inj H; subst H))
    | constructor
def G12 : Env := G11.add 90 [] spec_l25Step.S
theorem G12_ok : EnvOk Try.prog G12 := G11_ok.add ent_90 fun ar h r h1 ⟨a0, y, hy, e1, e2, e3, e4⟩ => by
  subst e3 e4; exact (spec_l25Step.spec a0 y hy).le e1 e2
attribute [local irreducible] spec_l25Step

end Go.Proofs.Ytpopcdnjnligiaa
